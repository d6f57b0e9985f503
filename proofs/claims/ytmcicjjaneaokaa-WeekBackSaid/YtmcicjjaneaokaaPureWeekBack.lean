/- WeekBack: weeks and days, texts and days undo one another, and a week's days are side by side. For every input of Go's kinds; no further condition. -/
import Derived.Test.YtmcicjjaneaokaaMWeekBackx
import Derived.Test.YtmcicjjaneaokaaCalBase
import Derived.Test.YtmcicjjaneaokaaScanBase
namespace Go.Proofs.Ytmcicjjaneaokaa.MWeekBack
open Go.RowKit Go.Proofs.YtmcicjjaneaokaaW.PrintWords Go.Proofs.YtmcicjjaneaokaaW.PrintLast Go.Proofs.YtmcicjjaneaokaaW.PrintMore Go.Proofs.Ytmcicjjaneaokaa.Base
set_option linter.unusedVariables false
set_option linter.unusedSimpArgs false

theorem floor_is (a b : Int) (hb : b = 400 ∨ b = 146097) (ha : -100000000 ≤ a ∧ a ≤ 100000000) : day_floor.f a b = some (a / b) := by
  unfold day_floor.f
  rw [tmod_is, tdiv_is]
  rcases hb with rfl | rfl
  · rw [if_neg (by decide)]
    by_cases h : a < 0
    · simp only [if_pos h]
      rw [wr (n := -(-a / 400)) (by omega)]
      split
      · rw [wr (by omega)]; congr 1; omega
      · congr 1; omega
    · simp only [if_neg h]
      rw [if_neg (by omega), wr (by omega)]
  · rw [if_neg (by decide)]
    by_cases h : a < 0
    · simp only [if_pos h]
      rw [wr (n := -(-a / 146097)) (by omega)]
      split
      · rw [wr (by omega)]; congr 1; omega
      · congr 1; omega
    · simp only [if_neg h]
      rw [if_neg (by omega), wr (by omega)]
theorem number_is (y m d : Int) (hy : -30000 ≤ y ∧ y ≤ 30000) (h1 : 1 ≤ m) (h2 : m ≤ 12) (hd : -1000 ≤ d ∧ d ≤ 1000) : day_number.f y m d = some (nm y m d) := by
  have core : ∀ y m : Int, -30001 ≤ y → y ≤ 30001 → 3 ≤ m → m ≤ 14 →
      wrap64 (wrap64 (wrap64 (wrap64 (wrap64 (wrap64 (y / 400 * 146097) + wrap64 (wrap64 (y - wrap64 (y / 400 * 400)) * 365)) + wrap64 (Int.tdiv (wrap64 (y - wrap64 (y / 400 * 400))) 4)) - wrap64 (Int.tdiv (wrap64 (y - wrap64 (y / 400 * 400))) 100)) + wrap64 (wrap64 (wrap64 (Int.tdiv (wrap64 (wrap64 (153 * wrap64 (m - 3)) + 2)) 5) + d) - 1)) - 719468) = nmM y m d := by
    intro y m a1 a2 a3 a4
    have e : y - y / 400 * 400 = y % 400 := by omega
    rw [wr (n := y / 400 * 400) (by omega), e, wr (n := y % 400) (by omega), tdiv_is, tdiv_is, if_neg (by omega), if_neg (by omega)]
    rw [wr (n := m - 3) (by omega), wr (n := 153 * (m - 3)) (by omega), wr (n := 153 * (m - 3) + 2) (by omega), tdiv_is, if_neg (by omega)]
    rw [wr (n := y / 400 * 146097) (by omega), wr (n := y % 400 * 365) (by omega), wr (n := y % 400 / 4) (by omega), wr (n := y % 400 / 100) (by omega), wr (n := (153 * (m - 3) + 2) / 5) (by omega)]
    rw [wr (n := y / 400 * 146097 + y % 400 * 365) (by omega), wr (n := y / 400 * 146097 + y % 400 * 365 + y % 400 / 4) (by omega), wr (n := y / 400 * 146097 + y % 400 * 365 + y % 400 / 4 - y % 400 / 100) (by omega)]
    rw [wr (n := (153 * (m - 3) + 2) / 5 + d) (by omega), wr (n := (153 * (m - 3) + 2) / 5 + d - 1) (by omega), wr (n := y / 400 * 146097 + y % 400 * 365 + y % 400 / 4 - y % 400 / 100 + ((153 * (m - 3) + 2) / 5 + d - 1)) (by omega), wr (by omega)]
    unfold nmM; omega
  unfold day_number.f
  split
  · rw [wr (n := y - 1) (by omega), floor_is _ _ (Or.inl rfl) (by omega), wr (n := m + 12) (by omega)]
    simp only [Option.bind_some]
    rw [core (y - 1) (m + 12) (by omega) (by omega) (by omega) (by omega), nmM_early y m d h1 (by omega)]
  · rw [floor_is _ _ (Or.inl rfl) (by omega)]
    simp only [Option.bind_some]
    rw [core y m (by omega) (by omega) (by omega) (by omega), nmM_late y m d (by omega) h2]
theorem nm_11 (y : Int) : nm y 1 1 = S y := by unfold nm; rw [cm_one]; omega
theorem start_is (y : Int) : day_Start.f y = some (if -20000 ≤ y ∧ y ≤ 20000 then (S y, none) else (0, some 13)) := by
  unfold day_Start.f
  split
  · rw [if_neg (by omega)]
  · split
    · rw [if_neg (by omega)]
    · rw [if_pos (by omega), number_is y 1 1 (by omega) (by decide) (by decide) (by omega), nm_11]
      rfl
theorem weekday_is (n : Int) : day_Weekday.f n = some ((n + 3) % 7 + 1) := by
  unfold day_Weekday.f
  rw [tmod_is n 7]
  split
  · rw [wr (n := -(-n % 7) + 3) (by omega), tmod_is (-(-n % 7) + 3) 7]
    split
    · rw [wr (n := -(-(-(-n % 7) + 3) % 7) + 7) (by omega), tmod_is, if_neg (by omega), wr (by omega)]; congr 1; omega
    · rw [wr (n := (-(-n % 7) + 3) % 7 + 7) (by omega), tmod_is, if_neg (by omega), wr (by omega)]; congr 1; omega
  · rw [wr (n := n % 7 + 3) (by omega), tmod_is (n % 7 + 3) 7, if_neg (by omega), wr (n := (n % 7 + 3) % 7 + 7) (by omega), tmod_is, if_neg (by omega), wr (by omega)]; congr 1; omega
theorem first_is : day_First.f = some (-4371587) := by kernel_rfl
theorem last_is : day_Last.f = some 2932896 := by kernel_rfl
/-- The date of a number. -/
def dateV (n : Int) : Int × Int × Int :=
  let e := (n + 719468) / 146097
  let f := (n + 719468) % 146097
  let r := f - (365 * ofD f + ofD f / 4 - ofD f / 100)
  let m := (5 * r + 2) / 153
  (if m + 3 > 12 then ofD f + e * 400 + 1 else ofD f + e * 400, if m + 3 > 12 then m - 9 else m + 3, r - (153 * m + 2) / 5 + 1)
theorem dateV_ok (n : Int) : ok (dateV n).1 (dateV n).2.1 (dateV n).2.2 ∧ nm (dateV n).1 (dateV n).2.1 (dateV n).2.2 = n := by
  unfold dateV
  simp only
  obtain ⟨f, hf⟩ : ∃ f, f = (n + 719468) % 146097 := ⟨_, rfl⟩
  obtain ⟨e, he⟩ : ∃ e, e = (n + 719468) / 146097 := ⟨_, rfl⟩
  rw [← hf, ← he]
  have o := ofD_is f (by omega) (by omega)
  generalize ofD f = y at *
  obtain ⟨o1, o2, o3, o4⟩ := o
  obtain ⟨r, hr⟩ : ∃ r, r = f - (365 * y + y / 4 - y / 100) := ⟨_, rfl⟩
  rw [← hr]
  have l := lp_01 (y + 1)
  have r0 : 0 ≤ r ∧ r ≤ 365 := by omega
  obtain ⟨m, hm⟩ : ∃ m, m = (5 * r + 2) / 153 := ⟨_, rfl⟩
  rw [← hm]
  have m0 : 0 ≤ m ∧ m ≤ 11 := by omega
  have l4 : lp (y + e * 400 + 1) = lp (y + 1) := by
    unfold lp; congr 1; exact propext ⟨fun h => by omega, fun h => by omega⟩
  by_cases hc : m + 3 > 12
  · rw [if_pos hc, if_pos hc]
    have d := nmM_early (y + e * 400 + 1) (m - 9) (r - (153 * m + 2) / 5 + 1) (by omega) (by omega)
    refine ⟨⟨by omega, by omega, by omega, ?_⟩, ?_⟩
    · unfold ml
      rw [l4]
      have : m = 10 ∨ m = 11 := by omega
      rcases this with h | h <;> subst h
      · rw [if_neg (by decide)]; omega
      · rw [if_pos (by decide)]; omega
    · rw [← d]
      unfold nmM
      rw [show y + e * 400 + 1 - 1 = y + e * 400 by omega, show m - 9 + 12 - 3 = m by omega]
      have q1 : (y + e * 400) / 400 = e := by omega
      have q2 : (y + e * 400) % 400 = y := by omega
      rw [q1, q2]
      omega
  · rw [if_neg hc, if_neg hc]
    have d := nmM_late (y + e * 400) (m + 3) (r - (153 * m + 2) / 5 + 1) (by omega) (by omega)
    refine ⟨⟨by omega, by omega, by omega, ?_⟩, ?_⟩
    · unfold ml
      rw [if_neg (by omega)]
      have : m = 0 ∨ m = 1 ∨ m = 2 ∨ m = 3 ∨ m = 4 ∨ m = 5 ∨ m = 6 ∨ m = 7 ∨ m = 8 ∨ m = 9 := by omega
      rcases this with h | h | h | h | h | h | h | h | h | h <;> (subst h; omega)
    · rw [← d]
      unfold nmM
      rw [show m + 3 - 3 = m by omega]
      have q1 : (y + e * 400) / 400 = e := by omega
      have q2 : (y + e * 400) % 400 = y := by omega
      rw [q1, q2]
      omega
theorem date_is (n : Int) : Ev (fun k => day_Date.f k n) (if -4371587 ≤ n ∧ n ≤ 2932896 then ((dateV n).1, (dateV n).2.1, (dateV n).2.2, none) else (0, 0, 0, some 13)) := by
  unfold day_Date.f
  refine Ev.bindc first_is ?_
  have bad : ¬ (-4371587 ≤ n ∧ n ≤ 2932896) → Ev (fun k => day_Date.j0 k n true) (if -4371587 ≤ n ∧ n ≤ 2932896 then ((dateV n).1, (dateV n).2.1, (dateV n).2.2, none) else (0, 0, 0, some 13)) := by
    intro h
    rw [if_neg h]
    refine Ev.up ?_
    simp only [day_Date.j0, if_true]
    exact Ev.now _
  refine Ev.ite (fun h => bad (by omega)) (fun h => Ev.bindc last_is ?_)
  by_cases h2 : n > 2932896
  · rw [decide_eq_true h2]; exact bad (by omega)
  · rw [decide_eq_false h2, if_pos (by omega)]
    refine Ev.up ?_
    simp only [day_Date.j0, Bool.false_eq_true, if_false]
    have w0 : wrap64 (n + 719468) = n + 719468 := wr (by omega)
    rw [w0, floor_is _ _ (Or.inr rfl) (by omega)]
    simp only [Option.bind_some]
    unfold dateV
    simp only
    have ef : n + 719468 - (n + 719468) / 146097 * 146097 = (n + 719468) % 146097 := by omega
    have eb : -30 ≤ (n + 719468) / 146097 ∧ (n + 719468) / 146097 ≤ 30 := by omega
    have w1 : wrap64 ((n + 719468) / 146097 * 146097) = (n + 719468) / 146097 * 146097 := wr (by omega)
    have w2 : wrap64 ((n + 719468) % 146097) = (n + 719468) % 146097 := wr (by omega)
    have w3 : wrap64 ((n + 719468) / 146097 * 400) = (n + 719468) / 146097 * 400 := wr (by omega)
    simp only [w1, ef, w2, w3]
    have f0 : 0 ≤ (n + 719468) % 146097 ∧ (n + 719468) % 146097 < 146097 := by omega
    generalize (n + 719468) % 146097 = f at *
    generalize (n + 719468) / 146097 = e at *
    clear w0 w1 w2 ef bad
    have t1 : wrap64 (Int.tdiv f 1460) = f / 1460 := by rw [tdiv_is, if_neg (by omega), wr (by omega)]
    have t2 : wrap64 (Int.tdiv f 36524) = f / 36524 := by rw [tdiv_is, if_neg (by omega), wr (by omega)]
    have t3 : wrap64 (Int.tdiv f 146096) = f / 146096 := by rw [tdiv_is, if_neg (by omega), wr (by omega)]
    have t4 : wrap64 (wrap64 (wrap64 (f - f / 1460) + f / 36524) - f / 146096) = f - f / 1460 + f / 36524 - f / 146096 := by
      rw [wr (n := f - f / 1460) (by omega), wr (n := f - f / 1460 + f / 36524) (by omega), wr (by omega)]
    have t5 : Int.tdiv (f - f / 1460 + f / 36524 - f / 146096) 365 = ofD f := by rw [tdiv_is, if_neg (by omega)]; rfl
    have o := ofD_is f f0.1 f0.2
    have l := lp_01 (ofD f + 1)
    have t6 : wrap64 (ofD f) = ofD f := wr (by omega)
    simp only [t1, t2, t3, t4, t5, t6]
    clear t1 t2 t3 t4 t5 t6
    generalize ofD f = y at *
    have t7 : wrap64 (Int.tdiv y 4) = y / 4 := by rw [tdiv_is, if_neg (by omega), wr (by omega)]
    have t8 : wrap64 (Int.tdiv y 100) = y / 100 := by rw [tdiv_is, if_neg (by omega), wr (by omega)]
    have t9 : wrap64 (f - wrap64 (wrap64 (wrap64 (365 * y) + y / 4) - y / 100)) = f - (365 * y + y / 4 - y / 100) := by
      rw [wr (n := 365 * y) (by omega), wr (n := 365 * y + y / 4) (by omega), wr (n := 365 * y + y / 4 - y / 100) (by omega), wr (by omega)]
    have t10 : wrap64 (y + e * 400) = y + e * 400 := wr (by omega)
    simp only [t7, t8, t9, t10]
    clear t7 t8 t9 t10
    have r0 : 0 ≤ f - (365 * y + y / 4 - y / 100) ∧ f - (365 * y + y / 4 - y / 100) ≤ 365 := by omega
    generalize f - (365 * y + y / 4 - y / 100) = r at *
    have t11 : wrap64 (Int.tdiv (wrap64 (wrap64 (5 * r) + 2)) 153) = (5 * r + 2) / 153 := by
      rw [wr (n := 5 * r) (by omega), wr (n := 5 * r + 2) (by omega), tdiv_is, if_neg (by omega), wr (by omega)]
    simp only [t11]
    clear t11
    have m0 : 0 ≤ (5 * r + 2) / 153 ∧ (5 * r + 2) / 153 ≤ 11 := by omega
    generalize (5 * r + 2) / 153 = m at *
    have t12 : wrap64 (Int.tdiv (wrap64 (wrap64 (153 * m) + 2)) 5) = (153 * m + 2) / 5 := by
      rw [wr (n := 153 * m) (by omega), wr (n := 153 * m + 2) (by omega), tdiv_is, if_neg (by omega), wr (by omega)]
    have t13 : wrap64 (wrap64 (r - (153 * m + 2) / 5) + 1) = r - (153 * m + 2) / 5 + 1 := by
      rw [wr (n := r - (153 * m + 2) / 5) (by omega), wr (by omega)]
    have t14 : wrap64 (m + 3) = m + 3 := wr (by omega)
    have t15 : wrap64 (m + 3 - 12) = m - 9 := by rw [wr (by omega)]; omega
    have t16 : wrap64 (y + e * 400 + 1) = y + e * 400 + 1 := wr (by omega)
    simp only [t12, t13, t14, t15, t16]
    refine Ev.ite (fun h => ?_) (fun h => ?_)
    · rw [if_pos h, if_pos h]; exact Ev.now _
    · rw [if_neg h, if_neg h]; exact Ev.now _
/-- The Monday of a year's first week. -/
def mon (y : Int) : Int := S y + 3 - (S y + 6) % 7
theorem S_bd (y : Int) (h : -20001 ≤ y ∧ y ≤ 20001) : -9000000 ≤ S y ∧ S y ≤ 9000000 := by unfold S; omega
theorem monday_is (y : Int) : week_monday.f y = some (if -20000 ≤ y ∧ y ≤ 20000 then (mon y, none) else (0, some 13)) := by
  unfold week_monday.f
  rw [start_is]
  simp only [Option.bind_some]
  by_cases h : -20000 ≤ y ∧ y ≤ 20000
  · have b := S_bd y (by omega)
    rw [if_pos h, if_pos h]
    simp only [Option.isNone_none, if_true]
    rw [show wrap64 (S y + 3) = S y + 3 from wr (by omega), weekday_is]
    simp only [Option.bind_some]
    unfold mon
    generalize S y = s at *
    rw [show (s + 3 + 3) % 7 + 1 - 1 = (s + 6) % 7 by omega, show wrap64 ((s + 6) % 7) = (s + 6) % 7 from wr (by omega), show wrap64 (s + 3 - (s + 6) % 7) = s + 3 - (s + 6) % 7 from wr (by omega)]
  · rw [if_neg h, if_neg h]; rfl
/-- The Thursday of a day's week. -/
def thu (n : Int) : Int := n + 3 - (n + 3) % 7
theorem mon_thu (n y : Int) : mon y ≤ n ↔ S y ≤ thu n := by unfold mon thu; omega
theorem mon_week (n y : Int) : (n - mon y) / 7 = (thu n - S y) / 7 := by unfold mon thu; omega
/-- The week's year of a day. -/
def wyr (n : Int) : Int := if S ((dateV n).1 + 1) ≤ thu n then (dateV n).1 + 1 else if S (dateV n).1 ≤ thu n then (dateV n).1 else (dateV n).1 - 1
def weekOf (n : Int) : Int × Int × Int := (wyr n, (thu n - S (wyr n)) / 7 + 1, (n + 3) % 7 + 1)
theorem dateV_yr (n : Int) : S (dateV n).1 ≤ n ∧ n < S ((dateV n).1 + 1) := by
  have h := dateV_ok n
  have b := nm_bd h.1
  rw [h.2] at b
  exact b
theorem dateV_yb (n : Int) (h : -4371587 ≤ n ∧ n ≤ 2932896) : -9999 ≤ (dateV n).1 ∧ (dateV n).1 ≤ 9999 := by
  have b := dateV_yr n
  have e1 : S (-9999) = -4371587 := by decide
  have e2 : S 10000 = 2932897 := by decide
  have h1 : (dateV n).1 < 10000 := S_lt (by omega)
  have h2 : -9999 < (dateV n).1 + 1 := S_lt (by omega)
  omega
theorem thu_bd (n : Int) : n - 3 ≤ thu n ∧ thu n ≤ n + 3 := by unfold thu; omega
theorem wyr_is (n : Int) : S (wyr n) ≤ thu n ∧ thu n < S (wyr n + 1) := by
  have b := dateV_yr n
  have t := thu_bd n
  unfold wyr
  have s1 := S_mono (a := (dateV n).1 + 1) (b := (dateV n).1 + 1 + 1) (by omega)
  have s2 := S_mono (a := (dateV n).1 - 1) (b := (dateV n).1) (by omega)
  by_cases h1 : S ((dateV n).1 + 1) ≤ thu n
  · rw [if_pos h1]; exact ⟨h1, by omega⟩
  · rw [if_neg h1]
    by_cases h2 : S (dateV n).1 ≤ thu n
    · rw [if_pos h2]; exact ⟨h2, by omega⟩
    · rw [if_neg h2, show (dateV n).1 - 1 + 1 = (dateV n).1 by omega]; exact ⟨by omega, by omega⟩
/-- The first Thursday from a day on. -/
def fth (n : Int) : Int := n + 6 - (n + 6) % 7
theorem fth_bd (n : Int) : n ≤ fth n ∧ fth n ≤ n + 6 ∧ fth n % 7 = 0 := by unfold fth; omega
theorem mon_fth (y : Int) : mon y = fth (S y) - 3 := by unfold mon fth; omega
theorem fth_add (n i : Int) : fth (n + 7 * i) = fth n + 7 * i := by unfold fth; omega
/-- How many weeks a year has. -/
def cntV (y : Int) : Int := (mon (y + 1) - mon y) / 7
theorem cnt_fth (y : Int) : 7 * cntV y = fth (S (y + 1)) - fth (S y) ∧ 50 ≤ cntV y ∧ cntV y ≤ 55 := by
  have s := S_succ y
  have l := lp_01 y
  unfold cntV
  rw [mon_fth, mon_fth]
  have a := fth_bd (S y)
  have b := fth_bd (S (y + 1))
  omega
def wkOk (y : Int) : Prop := -10000 ≤ y ∧ y ≤ 10000
instance (y : Int) : Decidable (wkOk y) := inferInstanceAs (Decidable (_ ∧ _))
theorem wright_is (y : Int) : week_right.f y = some (decide (wkOk y)) := by
  unfold week_right.f
  split
  · congr 1; exact decide_eq_decide.mpr ⟨fun q => ⟨by omega, q⟩, fun q => q.2⟩
  · congr 1; exact (decide_eq_false (fun q => by have := q.1; omega)).symm
theorem wmonday_is (y : Int) : week_Monday.f y = some (if wkOk y then (mon y, none) else (0, some 13)) := by
  unfold week_Monday.f
  rw [wright_is]
  simp only [Option.bind_some]
  by_cases h : wkOk y
  · have h' := h
    unfold wkOk at h'
    rw [if_pos (decide_eq_true h), if_pos h, monday_is, if_pos (by omega)]; rfl
  · rw [if_neg (by simpa using h), if_neg h]
theorem mon_bd (y : Int) (h : -20001 ≤ y ∧ y ≤ 20001) : -9000010 ≤ mon y ∧ mon y ≤ 9000010 := by
  have := S_bd y h
  unfold mon; omega
theorem wweeks_is (y : Int) : week_Weeks.f y = some (if wkOk y then (cntV y, none) else (0, some 13)) := by
  unfold week_Weeks.f
  rw [wmonday_is]
  simp only [Option.bind_some]
  by_cases h : wkOk y
  · have h' := h
    unfold wkOk at h'
    have c := cnt_fth y
    have b1 := mon_bd y (by omega)
    have b2 := mon_bd (y + 1) (by omega)
    rw [if_pos h, if_pos h]
    simp only [Option.isNone_none, if_true]
    rw [show wrap64 (y + 1) = y + 1 from wr (by omega), monday_is, if_pos (by omega)]
    simp only [Option.bind_some, Option.isNone_none, if_true]
    unfold cntV at c ⊢
    rw [show wrap64 (mon (y + 1) - mon y) = mon (y + 1) - mon y from wr (by omega), tdiv_is, if_neg (by omega), wr (by omega)]
  · rw [if_neg h, if_neg h]; rfl
def dayOk (y w d : Int) : Prop := 1 ≤ w ∧ w ≤ cntV y ∧ 1 ≤ d ∧ d ≤ 7
instance (y w d : Int) : Decidable (dayOk y w d) := inferInstanceAs (Decidable (_ ∧ _))
/-- The number of a week's day. -/
def wdayV (y w d : Int) : Int × Option Int :=
  if wkOk y then (if dayOk y w d then (if -4371587 ≤ mon y + 7 * (w - 1) + d - 1 ∧ mon y + 7 * (w - 1) + d - 1 ≤ 2932896 then (mon y + 7 * (w - 1) + d - 1, none) else (0, some 13)) else (0, some 1)) else (0, some 13)
theorem wthere_is (n : Int) : week_there.f n = some (decide (-4371587 ≤ n ∧ n ≤ 2932896)) := by
  unfold week_there.f
  rw [first_is]
  simp only [Option.bind_some]
  split
  · rw [last_is]
    simp only [Option.bind_some]
    congr 1; exact decide_eq_decide.mpr ⟨fun q => ⟨by omega, q⟩, fun q => q.2⟩
  · congr 1; exact (decide_eq_false (fun q => by have := q.1; omega)).symm
theorem wsum (y w d : Int) (hy : wkOk y) (h : dayOk y w d) : wrap64 (mon y + wrap64 (wrap64 (wrap64 (7 * wrap64 (w - 1)) + d) - 1)) = mon y + 7 * (w - 1) + d - 1 := by
  unfold wkOk at hy
  have c := cnt_fth y
  have b := mon_bd y (by omega)
  unfold dayOk at h
  rw [show wrap64 (w - 1) = w - 1 from wr (by omega), show wrap64 (7 * (w - 1)) = 7 * (w - 1) from wr (by omega), show wrap64 (7 * (w - 1) + d) = 7 * (w - 1) + d from wr (by omega), show wrap64 (7 * (w - 1) + d - 1) = 7 * (w - 1) + d - 1 from wr (by omega), wr (by omega)]
  omega
theorem wday_is (y w d : Int) : week_Day.f y w d = some (wdayV y w d) := by
  unfold week_Day.f wdayV
  rw [wweeks_is]
  simp only [Option.bind_some]
  by_cases hy : wkOk y
  · rw [if_pos hy, if_pos hy]
    simp only [Option.isNone_none, if_true]
    by_cases h : dayOk y w d
    · have h' := h
      unfold dayOk at h'
      have hy' := hy
      unfold wkOk at hy'
      rw [if_pos h, if_neg (by omega), if_neg (by omega), if_neg (by omega), if_neg (by omega), monday_is, if_pos (by omega)]
      simp only [Option.bind_some, Option.isNone_none, if_true]
      rw [wsum y w d hy h, wthere_is]
      simp only [Option.bind_some]
      by_cases g : -4371587 ≤ mon y + 7 * (w - 1) + d - 1 ∧ mon y + 7 * (w - 1) + d - 1 ≤ 2932896
      · rw [if_pos (decide_eq_true g), if_pos g]
      · rw [if_neg (by simpa using g), if_neg g]
    · rw [if_neg h]
      have h' : ¬ (1 ≤ w ∧ w ≤ cntV y ∧ 1 ≤ d ∧ d ≤ 7) := h
      repeat' split
      all_goals first | rfl | (exfalso; omega)
  · rw [if_neg hy, if_neg hy]; rfl
theorem wof_last (n y : Int) (hn : -4371587 ≤ n ∧ n ≤ 2932896) (hy : -20000 ≤ y ∧ y ≤ 20000) : wrap64 (wrap64 (Int.tdiv (wrap64 (n - mon y)) 7) + 1) = (thu n - S y) / 7 + 1 ∨ ¬ mon y ≤ n := by
  by_cases h : mon y ≤ n
  · refine Or.inl ?_
    have b := S_bd y (by omega)
    have hm : mon y ≤ S y + 3 ∧ S y - 3 ≤ mon y := by unfold mon; omega
    rw [show wrap64 (n - mon y) = n - mon y from wr (by omega), tdiv_is, if_neg (by omega), ← mon_week]
    rw [show wrap64 ((n - mon y) / 7) = (n - mon y) / 7 from wr (by omega), wr (by omega)]
  · exact Or.inr h
theorem wof_is (n : Int) : Ev (fun k => week_Of.f k n) (if -4371587 ≤ n ∧ n ≤ 2932896 then ((weekOf n).1, (weekOf n).2.1, (weekOf n).2.2, none) else (0, 0, 0, some 13)) := by
  unfold week_Of.f
  refine Ev.bind (date_is n) ?_
  by_cases h : -4371587 ≤ n ∧ n ≤ 2932896
  · rw [if_pos h, if_pos h]
    have yb := dateV_yb n h
    have b := dateV_yr n
    have t := thu_bd n
    have wy := wyr_is n
    have s2 := S_mono (a := (dateV n).1 - 1) (b := (dateV n).1) (by omega)
    unfold weekOf
    have hw : wyr n = if S ((dateV n).1 + 1) ≤ thu n then (dateV n).1 + 1 else if S (dateV n).1 ≤ thu n then (dateV n).1 else (dateV n).1 - 1 := rfl
    generalize (dateV n).1 = y at *
    refine Ev.pos rfl ?_
    simp only []
    rw [show wrap64 (y + 1) = y + 1 from wr (by omega), show wrap64 (y - 1) = y - 1 from wr (by omega)]
    have fin : ∀ x : Int, -20000 ≤ x → x ≤ 20000 → mon x ≤ n → wyr n = x → wrap64 (wrap64 (Int.tdiv (wrap64 (n - mon x)) 7) + 1) = (thu n - S (wyr n)) / 7 + 1 := by
      intro x h1 h2 h3 h4
      rcases wof_last n x h ⟨h1, h2⟩ with e | e
      · rw [h4]; exact e
      · exact absurd h3 e
    refine Ev.up ?_
    simp only [week_Of.l0]
    refine Ev.pos (by decide) (Ev.pos (by decide) (Ev.bindc (monday_is _) ?_))
    rw [show rd [y + 1, y, y - 1] 0 = y + 1 from rfl, if_pos (by omega)]
    refine Ev.pos rfl (Ev.ite (fun c => ?_) (fun c => ?_))
    · have e : wyr n = y + 1 := by rw [hw, if_pos ((mon_thu n _).mp c)]
      refine Ev.bindc (weekday_is n) (Ev.cast (Ev.now _) ?_)
      rw [fin _ (by omega) (by omega) c e, e]
    · have c' : ¬ S (y + 1) ≤ thu n := fun q => c ((mon_thu n _).mpr q)
      rw [show wrap64 (0 + 1) = 1 from by kernel_rfl]
      refine Ev.up ?_
      simp only [week_Of.l0]
      refine Ev.pos (by decide) (Ev.pos (by decide) (Ev.bindc (monday_is _) ?_))
      rw [show rd [y + 1, y, y - 1] 1 = y from rfl, if_pos (by omega)]
      refine Ev.pos rfl (Ev.ite (fun d => ?_) (fun d => ?_))
      · have e : wyr n = y := by rw [hw, if_neg c', if_pos ((mon_thu n _).mp d)]
        refine Ev.bindc (weekday_is n) (Ev.cast (Ev.now _) ?_)
        rw [fin _ (by omega) (by omega) d e, e]
      · have d' : ¬ S y ≤ thu n := fun q => d ((mon_thu n _).mpr q)
        have e : wyr n = y - 1 := by rw [hw, if_neg c', if_neg d']
        rw [show wrap64 (1 + 1) = 2 from by kernel_rfl]
        refine Ev.up ?_
        simp only [week_Of.l0]
        refine Ev.pos (by decide) (Ev.pos (by decide) (Ev.bindc (monday_is _) ?_))
        rw [show rd [y + 1, y, y - 1] 2 = y - 1 from rfl, if_pos (by omega)]
        have g : mon (y - 1) ≤ n := (mon_thu n _).mpr (by omega)
        refine Ev.pos rfl (Ev.pos g (Ev.bindc (weekday_is n) (Ev.cast (Ev.now _) ?_)))
        rw [fin _ (by omega) (by omega) g e, e]
  · rw [if_neg h, if_neg h]
    exact Ev.neg (by simp) (Ev.now _)
theorem rev_l0 (l : List Int) (hn : l.length ≤ 1000000) (m : Nat) : ∀ (x : List Int) (i : Nat), x.length = l.length → 2 * i + m ≥ l.length → 2 * i ≤ l.length + 1 →
    (∀ t : Nat, t < l.length → rd x t = if t < i ∨ l.length - 1 - i < t then rd l ((l.length - 1 - t : Nat) : Int) else rd l t) →
      Ev (fun k => slices_Reverse_byte_byte.l0 k x i ((l.length : Int) - 1 - i)) l.reverse := by
  induction m with
  | zero =>
    intro x i hl hm h2 h
    refine Ev.up ?_
    simp only [slices_Reverse_byte_byte.l0]
    refine Ev.neg (by omega) ?_
    rw [← rev_of hl (fun t ht => ?_)]
    · exact Ev.now _
    · rw [h t ht]
      by_cases q : t < i ∨ l.length - 1 - i < t
      · rw [if_pos q]
      · rw [if_neg q, show l.length - 1 - t = t by omega]
  | succ m ih =>
    intro x i hl hm h2 h
    by_cases hgo : 2 * i + 1 < l.length
    · have ej : (l.length : Int) - 1 - i = ((l.length - 1 - i : Nat) : Int) := by omega
      refine Ev.up ?_
      simp only [slices_Reverse_byte_byte.l0, ej]
      refine Ev.pos (by omega) (Ev.pos (by omega) (Ev.pos (by omega) (Ev.pos (by omega) (Ev.pos (by omega) ?_))))
      rw [wr (n := (i : Int) + 1) (by omega), wr (n := ((l.length - 1 - i : Nat) : Int) - 1) (by omega)]
      have := ih ((x.set (i : Int).toNat (rd x ((l.length - 1 - i : Nat) : Int))).set ((l.length - 1 - i : Nat) : Int).toNat (rd x i)) (i + 1) (by simp [hl]) (by omega) (by omega) (by
        intro t ht
        simp only [Int.toNat_natCast]
        rw [rd_set _ _ _ (by simp; omega), rd_set _ _ _ (by omega)]
        by_cases t1 : t = l.length - 1 - i
        · rw [if_pos t1, if_pos (by omega), h i (by omega), if_neg (by omega), show l.length - 1 - t = i by omega]
        · rw [if_neg t1]
          by_cases t2 : t = i
          · rw [if_pos t2, if_pos (by omega), h _ (by omega), if_neg (by omega), t2]
          · rw [if_neg t2, h t ht]
            by_cases t3 : t < i ∨ l.length - 1 - i < t
            · rw [if_pos t3, if_pos (by omega)]
            · rw [if_neg t3, if_neg (by omega)])
      rw [show (l.length : Int) - 1 - ((i + 1 : Nat) : Int) = ((l.length - 1 - i : Nat) : Int) - 1 by omega] at this
      exact this
    · exact (by
        refine Ev.up ?_
        simp only [slices_Reverse_byte_byte.l0]
        refine Ev.neg (by omega) ?_
        rw [← rev_of hl (fun t ht => ?_)]
        · exact Ev.now _
        · rw [h t ht]
          by_cases q : t < i ∨ l.length - 1 - i < t
          · rw [if_pos q]
          · rw [if_neg q, show l.length - 1 - t = t by omega])
theorem rev_is (l : List Int) (hn : l.length ≤ 1000000) : Ev (fun k => slices_Reverse_byte_byte.f k l) l.reverse := by
  unfold slices_Reverse_byte_byte.f
  rw [wr (by omega)]
  have := rev_l0 l hn l.length l 0 rfl (by omega) (by omega) (fun t ht => by rw [if_neg (by omega)])
  simpa using this
theorem raw_pad (w : Int) (hw : 0 ≤ w ∧ w ≤ 1000) (m : Nat) : ∀ out : List Int, out.length ≤ 1000 → (max w.toNat 1 - out.length) ≤ m → Ev (fun k => figures_raw.l0 k 0 w out) (strOfNums ((out ++ List.replicate (max w.toNat 1 - out.length) 48).reverse)) := by
  have hx : mx w 1 = ((max w.toNat 1 : Nat) : Int) := by unfold mx; split <;> omega
  induction m with
  | zero =>
    intro out ho hm
    refine Ev.up ?_
    simp only [figures_raw.l0, hx]
    refine Ev.neg (by omega) (Ev.neg (by omega) (Ev.bind (rev_is out (by omega)) ?_))
    rw [show max w.toNat 1 - out.length = 0 by omega, List.replicate_zero, List.append_nil]
    exact Ev.now _
  | succ m ih =>
    intro out ho hm
    by_cases h : out.length < max w.toNat 1
    · refine Ev.up ?_
      simp only [figures_raw.l0, hx]
      have w1 : IntKind.u64.wrap (Int.tdiv 0 10) = 0 := by decide
      have w2 : (48 + Int.tmod 0 10) % 256 = 48 := by decide
      rw [w1, w2]
      refine Ev.neg (by omega) (Ev.pos (by omega) (Ev.pos (by omega) ?_))
      have := ih (out ++ [48]) (by simp; omega) (by simp; omega)
      rw [snoc_rep, show max w.toNat 1 - (out ++ [(48 : Int)]).length + 1 = max w.toNat 1 - out.length by simp; omega] at this
      exact this
    · exact ih out ho (by omega)
theorem raw_l0 (w : Int) (hw : 0 ≤ w ∧ w ≤ 100) (n : Nat) : ∀ out : List Int, n < 18446744073709551616 → out.length + (digs n).length ≤ 200 →
    Ev (fun k => figures_raw.l0 k (n : Int) w out) (strOfNums ((out ++ digs n ++ List.replicate (max w.toNat 1 - (out ++ digs n).length) 48).reverse)) := by
  induction n using Nat.strongRecOn with
  | ind n ih =>
    intro out hn ho
    by_cases h : n = 0
    · subst h
      rw [digs_zero, List.append_nil]
      exact raw_pad w (by omega) _ out (by omega) (Nat.le_refl _)
    · have e := digs_pos (show 0 < n by omega)
      refine Ev.up ?_
      simp only [figures_raw.l0]
      refine Ev.pos (by omega) (Ev.pos (by omega) ?_)
      have w1 : IntKind.u64.wrap (Int.tdiv (n : Int) 10) = ((n / 10 : Nat) : Int) := by rw [tdiv_is, if_neg (by omega), wrap_u64]; omega
      have w2 : (48 + Int.tmod (n : Int) 10) % 256 = 48 + (n : Int) % 10 := by rw [tmod_is, if_neg (by omega)]; omega
      rw [w1, w2]
      have := ih (n / 10) (by omega) (out ++ [48 + (n : Int) % 10]) (by omega) (by rw [e] at ho; simp at ho ⊢; omega)
      rw [show out ++ [48 + (n : Int) % 10] ++ digs (n / 10) = out ++ digs n by rw [e]; simp] at this
      exact this
theorem raw_is (n : Nat) (w : Int) (hn : n < 18446744073709551616) (hw : 0 ≤ w ∧ w ≤ 100) : Ev (fun k => figures_raw.f k (n : Int) w) (strOfNums (rawV n w.toNat)) := by
  have l := digs_len n 20 (by omega)
  have := raw_l0 w hw n [] hn (by simp; omega)
  rw [List.nil_append, List.reverse_append, List.reverse_replicate] at this
  exact this
/-- The text of a number with its sign. -/
def putV (n : Int) (w : Nat) : List Int := if n < 0 then 45 :: rawV (-n).toNat w else rawV n.toNat w
theorem put_is (n w : Int) (hn : I64 n) (hw : 0 ≤ w ∧ w ≤ 20) : Ev (fun k => figures_Put.f k n w) (strOfNums (putV n w.toNat), none) := by
  unfold I64 at hn
  unfold figures_Put.f
  refine Ev.neg (by omega) ?_
  rw [decide_eq_false (by omega)]
  refine Ev.up ?_
  simp only [figures_Put.j0, Bool.false_eq_true, if_false]
  unfold putV
  refine Ev.ite (fun h => ?_) (fun h => ?_)
  · rw [if_pos h, show IntKind.u64.wrap (-IntKind.u64.wrap n) = (((-n).toNat : Nat) : Int) by rw [wrap_u64, wrap_u64]; omega]
    refine Ev.bind (raw_is (-n).toNat w (by omega) (by omega)) (Ev.pos ?_ ?_)
    · rw [son_size, rawV_len]
      have := digs_len (-n).toNat 20 (by omega)
      omega
    · rw [show (⟨#[45]⟩ : ByteArray) = strOfNums [45] from rfl, son_append]
      exact Ev.now _
  · rw [if_neg h, show IntKind.u64.wrap n = ((n.toNat : Nat) : Int) by rw [wrap_u64]; omega]
    exact Ev.bind (raw_is n.toNat w (by omega) (by omega)) (Ev.now _)
/-- The text of a week's day. -/
def wtext (y w d : Int) : List Int := putV y 4 ++ ([45, 87] ++ (putV w 2 ++ ([45] ++ putV d 1)))
theorem putV_len (n : Int) (w : Nat) (hn : I64 n) (hw : w ≤ 20) : (putV n w).length ≤ 30 := by
  unfold I64 at hn
  have hd := digs_len n.natAbs 20 (by have : (10 : Nat) ^ 20 = 100000000000000000000 := by decide
                                      omega)
  unfold putV
  split
  · rw [show n.natAbs = (-n).toNat by omega] at hd
    rw [List.length_cons, rawV_len]; omega
  · rw [show n.natAbs = n.toNat by omega] at hd
    rw [rawV_len]; omega
theorem son_week (a b c : List Int) : (((strOfNums a ++ (⟨#[45, 87]⟩ : ByteArray)) ++ strOfNums b) ++ (⟨#[45]⟩ : ByteArray)) ++ strOfNums c = strOfNums (a ++ ([45, 87] ++ (b ++ ([45] ++ c)))) := by
  rw [show (⟨#[45, 87]⟩ : ByteArray) = strOfNums [45, 87] from rfl, show (⟨#[45]⟩ : ByteArray) = strOfNums [45] from rfl, son_append, son_append, son_append, son_append]
  simp only [List.append_assoc]
theorem wput_is (y w d : Int) (hy : I64 y) (hw : I64 w) (hd : I64 d) : Ev (fun k => week_put.f k y w d) (strOfNums (wtext y w d), none) := by
  unfold week_put.f
  have l1 := putV_len y 4 hy (by decide)
  have l2 := putV_len w 2 hw (by decide)
  have l3 := putV_len d 1 hd (by decide)
  refine Ev.bind (put_is y 4 hy (by decide)) (Ev.pos rfl (Ev.bind (put_is w 2 hw (by decide)) (Ev.pos rfl (Ev.bind (put_is d 1 hd (by decide)) (Ev.pos rfl ?_)))))
  show Ev (fun k => if (strOfNums (putV y 4)).size + 2 ≤ 9223372036854775807 then (if (strOfNums (putV y 4)).size + 2 + (strOfNums (putV w 2)).size ≤ 9223372036854775807 then (if (strOfNums (putV y 4)).size + 2 + (strOfNums (putV w 2)).size + 1 ≤ 9223372036854775807 then (if (strOfNums (putV y 4)).size + 2 + (strOfNums (putV w 2)).size + 1 + (strOfNums (putV d 1)).size ≤ 9223372036854775807 then (some ((((strOfNums (putV y 4) ++ (⟨#[45, 87]⟩ : ByteArray)) ++ strOfNums (putV w 2)) ++ (⟨#[45]⟩ : ByteArray)) ++ strOfNums (putV d 1), none)) else (none)) else (none)) else (none)) else (none)) _
  simp only [son_size]
  refine Ev.pos (by omega) (Ev.pos (by omega) (Ev.pos (by omega) (Ev.pos (by omega) (Ev.cast (Ev.now _) ?_))))
  rw [son_week]; rfl
/-- What is left of a text from a place on: nothing behind an error. -/
def leftV (l : List Int) (i : Nat) (e : Option Int) : List Int := if e.isNone = true then l.drop i else []
theorem leftV_none (l : List Int) (i : Nat) : leftV l i none = l.drop i := rfl
theorem leftV_some (l : List Int) (i : Nat) (c : Int) : leftV l i (some c) = [] := rfl
theorem leftV_byt {l : List Int} (h : Byt l) (i : Nat) (e : Option Int) : Byt (leftV l i e) := by
  unfold leftV; split
  · exact h.drop i
  · intro x hx; cases hx
theorem leftV_len (l : List Int) (i : Nat) (e : Option Int) : (leftV l i e).length ≤ l.length := by
  unfold leftV; split
  · simp
  · simp
theorem sroom {n : Nat} (h : n ≤ 140737488351232) : n ≤ 140737488355327 := by omega
theorem srest_is (l : List Int) (i : Nat) (e : Option Int) (hi : i ≤ l.length) : scan_Scanner_string_rest.f (strOfNums l) i e = some (strOfNums (leftV l i e), strOfNums l, (i : Int), e) := by
  unfold scan_Scanner_string_rest.f
  cases e with
  | none =>
    rw [if_pos (show (none : Option Int).isNone = true from rfl), if_pos (by omega), if_pos (by rw [son_size]; omega), Int.toNat_natCast, son_cut]; rfl
  | some c => rfl
theorem sclone_is (l : List Int) (hl : l.length ≤ 140737488351232) : strings_Clone.f (strOfNums l) = some (strOfNums l) := by
  unfold strings_Clone.f stringslite_Clone.f
  rw [if_pos (by rw [son_size]; omega)]; rfl
theorem stake_is (l : List Int) (i : Nat) (e : Option Int) (n : Nat) (hi : i ≤ l.length) (hl : l.length ≤ 140737488351232) (hn : n ≤ (leftV l i e).length) :
    scan_Scanner_string_take.f (strOfNums l) i e n = some (strOfNums ((leftV l i e).take n), strOfNums l, ((i + n : Nat) : Int), e) := by
  have hb := leftV_len l i e
  unfold scan_Scanner_string_take.f
  rw [srest_is l i e hi]
  simp only [Option.bind_some]
  rw [if_pos (by omega), if_pos (by rw [son_size]; omega), Int.toNat_natCast, son_first, sclone_is _ (by rw [List.length_take]; omega)]
  by_cases h : n = 0
  · subst h; rfl
  · rw [if_pos (by omega)]
    show some (_, _, wrap64 ((i : Int) + (n : Int)), _) = _
    have hn2 : i + n ≤ l.length ∨ n = 0 := by
      unfold leftV at hn; split at hn
      · rw [List.length_drop] at hn; omega
      · simp at hn; omega
    rw [wr (by omega)]
    congr 1
theorem speek_is (l : List Int) (hb : Byt l) (i : Nat) (e : Option Int) (hi : i ≤ l.length) : scan_Scanner_string_Peek.f (strOfNums l) i e = some ((leftV l i e).headD 0, decide (leftV l i e ≠ []), strOfNums l, (i : Int), e) := by
  unfold scan_Scanner_string_Peek.f
  rw [srest_is l i e hi]
  simp only [Option.bind_some]
  have hb2 := leftV_byt hb i e
  generalize leftV l i e = r at *
  cases r with
  | nil => rw [if_pos (by rw [son_toList]; rfl)]; rfl
  | cons x r =>
    rw [if_neg (by rw [son_toList]; simp), if_pos (by rw [son_size]; simp)]
    have := bt_at_son hb2 (i := 0) (by simp)
    rw [show bt (strOfNums (x :: r)) 0 = x from this]
    simp
/-- Does a byte come? -/
def comesV (r : List Int) (c : Int) : Bool := r.head? == some c
theorem sTake_is (l : List Int) (hb : Byt l) (i : Nat) (e : Option Int) (c : Int) (hi : i ≤ l.length) (hl : l.length ≤ 140737488351232) :
    scan_Scanner_string_Take.f (strOfNums l) i e c = some (comesV (leftV l i e) c, strOfNums l, (if comesV (leftV l i e) c = true then ((i + 1 : Nat) : Int) else (i : Int)), e) := by
  unfold scan_Scanner_string_Take.f
  rw [speek_is l hb i e hi]
  simp only [Option.bind_some]
  have ht := fun h => stake_is l i e 1 hi hl h
  generalize leftV l i e = r at *
  cases r with
  | nil => rfl
  | cons x r =>
    rw [if_pos (by simp)]
    unfold comesV
    by_cases h : x = c
    · subst h
      rw [if_pos (show (x :: r).headD 0 = x from rfl)]
      rw [show scan_Scanner_string_take.f (strOfNums l) (↑i) e 1 = _ from ht (by simp)]
      simp
    · rw [if_neg (show ¬ (x :: r).headD 0 = c from h)]
      have : ((x :: r).head? == some c) = false := by simpa using h
      rw [this]; rfl
theorem tw_take {p : Int → Bool} (r : List Int) : r.take (r.takeWhile p).length = r.takeWhile p := (List.prefix_iff_eq_take.mp (List.takeWhile_prefix p)).symm
theorem tw_len {p : Int → Bool} (r : List Int) : (r.takeWhile p).length ≤ r.length := (List.takeWhile_prefix p).length_le
theorem sErr_is (s : ByteArray) (i : Int) (e : Option Int) : scan_Scanner_string_Err.f s i e = some (e, s, i, e) := rfl
theorem sLeft_is (l : List Int) (i : Nat) (e : Option Int) (hi : i ≤ l.length) : scan_Scanner_string_Left.f (strOfNums l) i e = some (((leftV l i e).length : Int), strOfNums l, (i : Int), e) := by
  unfold scan_Scanner_string_Left.f
  rw [srest_is l i e hi]
  simp only [Option.bind_some, son_size]
/-- The error at the end. -/
def endV (l : List Int) (i : Nat) (e : Option Int) : Option Int := match e with | some c => some c | none => if i < l.length then some 2 else none
theorem sEnd_is (l : List Int) (i : Nat) (e : Option Int) (hi : i ≤ l.length) : scan_Scanner_string_End.f (strOfNums l) i e = some (endV l i e, strOfNums l, (i : Int), e) := by
  unfold scan_Scanner_string_End.f
  rw [sErr_is]
  cases e with
  | some c => rfl
  | none =>
    simp only [Option.bind_some]
    rw [if_pos (show (none : Option Int).isNone = true from rfl), sLeft_is l i none hi]
    simp only [Option.bind_some, leftV_none, List.length_drop]
    unfold endV
    by_cases h : i < l.length
    · rw [if_pos (by omega)]; simp only [if_pos h]
    · rw [if_neg (by omega)]; simp only [if_neg h]
theorem is_is (c : Int) : figures_Is.f c = some (decide (figb c)) := by
  unfold figures_Is.f
  split
  · congr 1; exact decide_eq_decide.mpr ⟨fun q => ⟨by omega, q⟩, fun q => q.2⟩
  · congr 1; exact (decide_eq_false (fun q => by unfold figb at q; omega)).symm
theorem mn_nat (a : Nat) (m : Int) (hm : 0 ≤ m) : mn (a : Int) m = ((min m.toNat a : Nat) : Int) := by unfold mn; split <;> omega
theorem run_l0 (s : ByteArray) (m : Int) (hm : 0 ≤ m) (hs : s.size ≤ 140737488351232) (f : Nat) : ∀ i : Nat, i + f = min m.toNat s.size → Ev (fun k => figures_run.l0 k s m i) ((runG s i f : Nat) : Int) := by
  induction f with
  | zero =>
    intro i hi
    refine Ev.up ?_
    simp only [figures_run.l0, mn_nat _ _ hm, runG]
    exact Ev.neg (by omega) (Ev.now _)
  | succ f ih =>
    intro i hi
    refine Ev.up ?_
    simp only [figures_run.l0, mn_nat _ _ hm, is_is, Option.bind_some]
    refine Ev.pos (by omega) (Ev.pos (by omega) (Ev.pos (by omega) (Ev.ite (fun h => ?_) (fun h => ?_))))
    · rw [wr (n := (i : Int) + 1) (by omega)]
      unfold runG
      rw [if_pos (of_decide_eq_true h)]
      exact ih (i + 1) (by omega)
    · unfold runG
      rw [if_neg (fun q => h (decide_eq_true q))]
      exact Ev.now _
theorem run_is (s : ByteArray) (m : Int) (hm : 0 ≤ m) (hs : s.size ≤ 140737488351232) : Ev (fun k => figures_run.f k s m) ((runV s m.toNat : Nat) : Int) := by
  unfold figures_run.f
  exact run_l0 s m hm hs _ 0 (by omega)
theorem value_l0 (s : ByteArray) (L : Int) (hL : 100 ≤ L ∧ L ≤ 18446744073709551615) (hs : s.size ≤ 140737488351232) (hf : ∀ i : Nat, i < s.size → figb (bt s i)) (m : Nat) : ∀ i : Nat, i + m = s.size → nv s i ≤ L →
    Ev (fun k => figures_value.l0 k s L (nv s i) (s.size : Int) i) (if nv s s.size > L then (0, some 5) else (nv s s.size, none)) := by
  induction m with
  | zero =>
    intro i hi hv
    rw [show s.size = i by omega]
    refine Ev.up ?_
    simp only [figures_value.l0]
    rw [if_neg (by omega)]
    exact Ev.neg (by omega) (Ev.now _)
  | succ m ih =>
    intro i hi hv
    have hd := hf i (by omega)
    unfold figb at hd
    have h0 := nv_nonneg s i (fun j hj => hf j (by omega))
    have w1 : (bt s i - 48) % 256 = bt s i - 48 := by omega
    have w2 : IntKind.u64.wrap (Int.tdiv (IntKind.u64.wrap (L - (bt s i - 48))) 10) = (L - (bt s i - 48)) / 10 := by rw [wrap_u64 (L - _), tdiv_is, if_neg (by omega), wrap_u64]; omega
    refine Ev.up ?_
    simp only [figures_value.l0, w1, w2]
    refine Ev.pos (by omega) (Ev.pos (by omega) (Ev.pos (by omega) (Ev.ite (fun h => ?_) (fun h => ?_))))
    · have hm : nv s (i + 1) ≤ nv s s.size := nv_mono s (fun j hj => hf j hj) (by omega)
      simp only [nv] at hm
      rw [if_pos (by omega)]
      exact Ev.now _
    · have w3 : IntKind.u64.wrap (IntKind.u64.wrap (nv s i * 10) + (bt s i - 48)) = nv s (i + 1) := by simp only [nv]; rw [wrap_u64, wrap_u64]; omega
      rw [w3, wr (n := (i : Int) + 1) (by omega)]
      exact ih (i + 1) (by omega) (by simp only [nv]; omega)
theorem value_is (s : ByteArray) (L : Int) (hL : 100 ≤ L ∧ L ≤ 18446744073709551615) (hs : s.size ≤ 140737488351232) (hf : ∀ i : Nat, i < s.size → figb (bt s i)) :
    Ev (fun k => figures_value.f k s L) (if nv s s.size > L then (0, some 5) else (nv s s.size, none)) := by
  unfold figures_value.f
  have := value_l0 s L hL hs hf s.size 0 (by omega) (by simp only [nv]; omega)
  simpa [nv] using this
theorem runV_figs (s : ByteArray) (m : Nat) : ∀ i : Nat, i < runV s m → figb (bt s i) := fun i hi => runG_figs s _ 0 i (by omega) hi
/-- What the figures that a text begins with come to. -/
def takeV (s : ByteArray) (least most L : Int) : Int × Int × Option Int :=
  if least < 1 ∨ least > most ∨ most > 20 then (0, 0, some 1)
  else if (runV s most.toNat : Int) < least then (0, 0, some 2)
  else if nv s (runV s most.toNat) > L then (0, 0, some 5)
  else (nv s (runV s most.toNat), runV s most.toNat, none)
theorem take_is (s : ByteArray) (least most L : Int) (hL : 100 ≤ L ∧ L ≤ 18446744073709551615) (hs : s.size ≤ 140737488351232) : Ev (fun k => figures_take.f k s least most L) (takeV s least most L) := by
  unfold figures_take.f takeV
  have bad : (least < 1 ∨ least > most ∨ most > 20) → Ev (fun k => figures_take.j0 k s least most L true) (if least < 1 ∨ least > most ∨ most > 20 then (0, 0, some 1) else if (runV s most.toNat : Int) < least then (0, 0, some 2) else if nv s (runV s most.toNat) > L then (0, 0, some 5) else (nv s (runV s most.toNat), ((runV s most.toNat : Nat) : Int), none)) := by
    intro h
    rw [if_pos h]
    refine Ev.up ?_
    simp only [figures_take.j0, if_true]
    exact Ev.now _
  refine Ev.ite (fun h => bad (Or.inl h)) (fun h1 => Ev.ite (fun h => bad (Or.inr (Or.inl h))) (fun h2 => ?_))
  by_cases h3 : most > 20
  · rw [decide_eq_true h3]; exact bad (Or.inr (Or.inr h3))
  · rw [decide_eq_false h3, if_neg (by omega)]
    refine Ev.up ?_
    simp only [figures_take.j0, Bool.false_eq_true, if_false]
    refine Ev.bind (run_is s most (by omega) hs) (Ev.ite (fun h => ?_) (fun h => ?_))
    · rw [if_pos h]; exact Ev.now _
    · rw [if_neg h]
      have rb := runV_bd s most.toNat
      have hx : (s.extract 0 ((runV s most.toNat : Nat) : Int).toNat).size = runV s most.toNat := size_extract s _ rb.2
      have hv := value_is (s.extract 0 ((runV s most.toNat : Nat) : Int).toNat) L hL (by rw [hx]; omega) (by
        rw [hx]
        intro i hi
        rw [Int.toNat_natCast, bt_extract s _ i hi rb.2]
        exact runV_figs s _ i hi)
      rw [hx] at hv
      rw [show nv (s.extract 0 ((runV s most.toNat : Nat) : Int).toNat) (runV s most.toNat) = nv s (runV s most.toNat) from nv_extract s _ rb.2 _ (Nat.le_refl _)] at hv
      refine Ev.pos (by omega) (Ev.pos (by omega) (Ev.bind hv ?_))
      by_cases hg : nv s (runV s most.toNat) > L
      · rw [if_pos hg, if_pos hg]; exact Ev.now _
      · rw [if_neg hg, if_neg hg]; exact Ev.now _
theorem sgoing_is (s : ByteArray) (i : Int) (e : Option Int) : scan_Scanner_string_going.f s i e = some (e.isNone, s, i, e) := by
  unfold scan_Scanner_string_going.f
  cases e <;> rfl
theorem tTake_is (s : ByteArray) (least most : Int) (hs : s.size ≤ 140737488351232) : Ev (fun k => figures_Take.f k s least most) (takeV s least most 9223372036854775807) := by
  unfold figures_Take.f
  refine Ev.bind (take_is s least most 9223372036854775807 (by omega) hs) (Ev.cast (Ev.now _) ?_)
  have hI : I64 (takeV s least most 9223372036854775807).1 := by
    unfold takeV I64
    have := nv_nonneg s (runV s most.toNat) (runV_figs s _)
    repeat' split
    all_goals (simp only; omega)
  rw [wrap64_id hI]
/-- Figures taken: the number, the place behind them, the error. -/
def sfigV (l : List Int) (i : Nat) (e : Option Int) (least most : Int) : Int × Int × Option Int :=
  match e with
  | some c => (0, i, some c)
  | none => match takeV (strOfNums (l.drop i)) least most 9223372036854775807 with
    | (n, m, none) => (n, i + m, none)
    | (_, _, some q) => (0, i, some q)
theorem takeV_le (s : ByteArray) (least most L : Int) : 0 ≤ (takeV s least most L).2.1 ∧ (takeV s least most L).2.1 ≤ s.size := by
  have := runV_bd s most.toNat
  unfold takeV
  repeat' split
  all_goals (simp only; omega)
theorem sFigures_is (l : List Int) (hb : Byt l) (i : Nat) (e : Option Int) (least most : Int) (hi : i ≤ l.length) (hl : l.length ≤ 140737488351232) :
    Ev (fun k => scan_Scanner_string_Figures.f k (strOfNums l) i e least most) ((sfigV l i e least most).1, strOfNums l, (sfigV l i e least most).2.1, (sfigV l i e least most).2.2) := by
  unfold scan_Scanner_string_Figures.f
  refine Ev.bindc (sgoing_is _ _ _) ?_
  cases e with
  | some c => exact Ev.neg (by simp) (Ev.now _)
  | none =>
    refine Ev.pos rfl (Ev.bindc (srest_is l i none hi) ?_)
    simp only [leftV_none]
    refine Ev.bind (tTake_is _ least most (by rw [son_size, List.length_drop]; omega)) ?_
    unfold sfigV
    have hle := takeV_le (strOfNums (l.drop i)) least most 9223372036854775807
    rw [son_size, List.length_drop] at hle
    rcases hq : takeV (strOfNums (l.drop i)) least most 9223372036854775807 with ⟨n, m, q⟩
    rw [hq] at hle
    simp only at hle
    cases q with
    | some q => exact Ev.neg (by simp) (Ev.now _)
    | none =>
      obtain ⟨m', rfl⟩ : ∃ m' : Nat, m = (m' : Int) := ⟨m.toNat, by omega⟩
      refine Ev.pos rfl (Ev.bindc (stake_is l i none m' hi hl (by rw [leftV_none, List.length_drop]; omega)) (Ev.cast (Ev.now _) ?_))
      show (n, strOfNums l, ((i + m' : Nat) : Int), (none : Option Int)) = (n, strOfNums l, (i : Int) + m', none)
      rw [show ((i + m' : Nat) : Int) = (i : Int) + m' by omega]
theorem comes_len {r : List Int} {c : Int} (h : comesV r c = true) : 1 ≤ r.length := by
  unfold comesV at h
  cases r with
  | nil => simp at h
  | cons x r => simp
/-- The figures' bytes. -/
def figset : List Int := [48, 49, 50, 51, 52, 53, 54, 55, 56, 57]
theorem figset_byt : Byt figset := by unfold Byt figset; decide
theorem figset_mem (x : Int) : x ∈ figset ↔ 48 ≤ x ∧ x ≤ 57 := by
  unfold figset
  simp only [List.mem_cons, List.mem_nil_iff, or_false]
  omega
def figrun (r : List Int) : List Int := r.takeWhile (fun x => decide (x ∈ figset))
theorem runG_son (t : List Int) (hb : Byt t) (m : Nat) : ∀ i : Nat, i + m = t.length → runG (strOfNums t) i m = i + (figrun (t.drop i)).length := by
  induction m with
  | zero =>
    intro i hi
    rw [List.drop_of_length_le (by omega)]; rfl
  | succ m ih =>
    intro i hi
    have hx := bt_at_son hb (i := i) (by omega)
    unfold runG
    rw [hx, List.drop_eq_getElem_cons (by omega)]
    unfold figrun
    rw [List.takeWhile_cons]
    by_cases h : figb t[i]
    · rw [if_pos h, if_pos (by exact decide_eq_true ((figset_mem _).mpr h)), ih (i + 1) (by omega)]
      unfold figrun
      rw [List.length_cons]; omega
    · rw [if_neg h, if_neg (by simpa using fun q => h ((figset_mem _).mp q))]; rfl
theorem figrun_figs (t : List Int) : ∀ x ∈ figrun t, 48 ≤ x ∧ x ≤ 57 := by
  intro x hx
  have := List.all_eq_true.mp (List.all_takeWhile (p := fun x => decide (x ∈ figset)) (l := t)) x hx
  exact (figset_mem x).mp (of_decide_eq_true this)
theorem figrun_len (t : List Int) : (figrun t).length ≤ t.length := tw_len t
theorem figrun_take (t : List Int) : t.take (figrun t).length = figrun t := tw_take t
/-- The number of a row of figures. -/
def numV (r : List Int) : Int := nv (strOfNums r) r.length
theorem fig_byt {r : List Int} (h : ∀ x ∈ r, 48 ≤ x ∧ x ≤ 57) : Byt r := fun x hx => by have := h x hx; omega
theorem fig_bt {r : List Int} (h : ∀ x ∈ r, 48 ≤ x ∧ x ≤ 57) (i : Nat) (hi : i < r.length) : figb (bt (strOfNums r) i) := by
  rw [bt_at_son (fig_byt h) hi]
  exact h _ (List.getElem_mem hi)
theorem numV_nonneg {r : List Int} (h : ∀ x ∈ r, 48 ≤ x ∧ x ≤ 57) : 0 ≤ numV r := nv_nonneg _ _ (fun i hi => fig_bt h i hi)
theorem numV_lt {r : List Int} (h : ∀ x ∈ r, 48 ≤ x ∧ x ≤ 57) : numV r < 10 ^ r.length := nv_lt _ _ (fun i hi => fig_bt h i hi)
theorem figrun_self {r : List Int} (h : ∀ x ∈ r, 48 ≤ x ∧ x ≤ 57) : figrun r = r := by
  unfold figrun
  apply tw_all
  intro x hx
  exact decide_eq_true ((figset_mem x).mpr (h x hx))
theorem figrun_pre {r : List Int} (h : ∀ x ∈ r, 48 ≤ x ∧ x ≤ 57) (rest : List Int) (hs : ¬ (48 ≤ rest.headD 0 ∧ rest.headD 0 ≤ 57)) : figrun (r ++ rest) = r := by
  unfold figrun
  rw [List.takeWhile_append_of_pos (fun x hx => decide_eq_true ((figset_mem x).mpr (h x hx)))]
  cases rest with
  | nil => simp
  | cons x rest =>
    rw [List.takeWhile_cons, if_neg (by simpa using fun q => hs ((figset_mem x).mp q)), List.append_nil]
theorem numV_pre {r : List Int} (h : ∀ x ∈ r, 48 ≤ x ∧ x ≤ 57) (rest : List Int) (hb : Byt rest) : nv (strOfNums (r ++ rest)) r.length = numV r := by
  have hbr := fig_byt h
  have hba : Byt (r ++ rest) := fun x hx => (List.mem_append.mp hx).elim (hbr x) (hb x)
  unfold numV
  rw [nv_son _ hba _ (by simp), nv_son _ hbr _ (Nat.le_refl _), List.take_left, List.take_length]
theorem takeV_pre {r : List Int} (h : ∀ x ∈ r, 48 ≤ x ∧ x ≤ 57) (rest : List Int) (hb : Byt rest) (hs : ¬ (48 ≤ rest.headD 0 ∧ rest.headD 0 ≤ 57)) (least most : Int) (h1 : 1 ≤ least) (h2 : least ≤ most) (h3 : most ≤ 18) (h4 : least ≤ r.length) (h5 : (r.length : Int) ≤ most) :
    takeV (strOfNums (r ++ rest)) least most 9223372036854775807 = (numV r, (r.length : Int), none) := by
  have hba : Byt (r ++ rest) := fun x hx => (List.mem_append.mp hx).elim (fig_byt h x) (hb x)
  have hr : runV (strOfNums (r ++ rest)) most.toNat = r.length := by
    rw [runV_min, son_size, runG_son _ hba _ 0 (by omega), List.drop_zero, figrun_pre h rest hs]; omega
  have hlt := numV_lt h
  have hp : (10 : Int) ^ r.length ≤ 10 ^ 18 := by exact_mod_cast Nat.pow_le_pow_right (by decide) (show r.length ≤ 18 by omega)
  have e18 : (10 : Int) ^ 18 = 1000000000000000000 := by decide
  unfold takeV
  rw [if_neg (by omega), hr, if_neg (by omega), numV_pre h rest hb, if_neg (by omega)]
theorem numV_raw (n w : Nat) : numV (rawV n w) = n := by unfold numV; exact (raw_read n w).2
theorem sfig_pre (l : List Int) (i : Nat) {r : List Int} (h : ∀ x ∈ r, 48 ≤ x ∧ x ≤ 57) (rest : List Int) (hl : l.drop i = r ++ rest) (hb : Byt rest) (hs : ¬ (48 ≤ rest.headD 0 ∧ rest.headD 0 ≤ 57)) (least most : Int) (h1 : 1 ≤ least) (h2 : least ≤ most) (h3 : most ≤ 18) (h4 : least ≤ r.length) (h5 : (r.length : Int) ≤ most) :
    sfigV l i none least most = (numV r, ((i + r.length : Nat) : Int), none) := by
  unfold sfigV
  simp only [hl]
  rw [takeV_pre h rest hb hs least most h1 h2 h3 h4 h5]
  simp only []
  congr 2
theorem takeV_bd (s : ByteArray) (least most L : Int) (hL : 0 ≤ L) : 0 ≤ (takeV s least most L).1 ∧ (takeV s least most L).1 ≤ L := by
  unfold takeV
  have := nv_nonneg s (runV s most.toNat) (runV_figs s _)
  repeat' split
  all_goals (simp only; omega)
/-- A text that is a week's day. -/
structure IsW (l : List Int) (y w d : Int) : Prop where
  hy : -99999 ≤ y ∧ y ≤ 99999
  hw : 0 ≤ w ∧ w ≤ 99
  hd : 0 ≤ d ∧ d ≤ 9
  ht : l = wtext y w d
theorem wtext_byt {y w d : Int} : Byt (wtext y w d) := by
  have pb : ∀ (n : Int) (m : Nat), Byt (putV n m) := by
    intro n m x hx
    unfold putV at hx
    split at hx
    · rcases List.mem_cons.mp hx with e | hx
      · omega
      · have := rawV_figs _ _ x hx; omega
    · have := rawV_figs _ _ x hx; omega
  intro x hx
  unfold wtext at hx
  simp only [List.mem_append, List.mem_cons, List.mem_nil_iff, or_false] at hx
  rcases hx with h | (h | h) | h | h | h
  · exact pb _ _ x h
  · omega
  · omega
  · exact pb _ _ x h
  · omega
  · exact pb _ _ x h
theorem wtext_split {y w d : Int} (hy : -99999 ≤ y ∧ y ≤ 99999) (hw : 0 ≤ w ∧ w ≤ 99) (hd : 0 ≤ d ∧ d ≤ 9) :
    wtext y w d = (if y < 0 then [45] else []) ++ (rawV y.natAbs 4 ++ (45 :: 87 :: (rawV w.toNat 2 ++ (45 :: rawV d.toNat 1)))) ∧ 4 ≤ (rawV y.natAbs 4).length ∧ (rawV y.natAbs 4).length ≤ 5 ∧ (rawV w.toNat 2).length = 2 ∧ (rawV d.toNat 1).length = 1 := by
  have a := digs_len y.natAbs 5 (by have : (10 : Nat) ^ 5 = 100000 := by decide
                                    omega)
  have b := digs_len w.toNat 2 (by have : (10 : Nat) ^ 2 = 100 := by decide
                                   omega)
  have c := digs_len d.toNat 1 (by have : (10 : Nat) ^ 1 = 10 := by decide
                                   omega)
  refine ⟨?_, by rw [rawV_len]; omega, by rw [rawV_len]; omega, by rw [rawV_len]; omega, by rw [rawV_len]; omega⟩
  unfold wtext putV
  rw [if_neg (show ¬ w < 0 by omega), if_neg (show ¬ d < 0 by omega)]
  by_cases h : y < 0
  · rw [if_pos h, if_pos h, show (-y).toNat = y.natAbs by omega]; rfl
  · rw [if_neg h, if_neg h, show y.toNat = y.natAbs by omega]; rfl
theorem wparse_on {y w d : Int} (hy : -99999 ≤ y ∧ y ≤ 99999) (hw : 0 ≤ w ∧ w ≤ 99) (hd : 0 ≤ d ∧ d ≤ 9) : Ev (fun k => week_Parse.f k (strOfNums (wtext y w d))) (wdayV y w d) := by
  obtain ⟨hl, y1, y2, w1, d1⟩ := wtext_split hy hw hd
  have hb := wtext_byt (y := y) (w := w) (d := d)
  have fY := rawV_figs y.natAbs 4
  have fW := rawV_figs w.toNat 2
  have fD := rawV_figs d.toNat 1
  have nY := numV_raw y.natAbs 4
  have nW := numV_raw w.toNat 2
  have nD := numV_raw d.toNat 1
  generalize hlt : wtext y w d = l at *
  generalize rawV y.natAbs 4 = Y at *
  generalize rawV w.toNat 2 = W at *
  generalize rawV d.toNat 1 = D at *
  obtain ⟨i, hi⟩ : ∃ i : Nat, i = if y < 0 then 1 else 0 := ⟨_, rfl⟩
  have hib : i ≤ 1 := by rw [hi]; split <;> omega
  have hdi : l.drop i = Y ++ (45 :: 87 :: (W ++ (45 :: D))) := by
    rw [hl, hi]; split <;> rfl
  have hlen : l.length = i + Y.length + 2 + 2 + 1 + 1 := by
    rw [hl, hi]
    split <;> (simp only [List.length_append, List.length_cons, List.length_nil]; omega)
  have hd2 : l.drop (i + Y.length) = 45 :: 87 :: (W ++ (45 :: D)) := by rw [← List.drop_drop, hdi, List.drop_left]
  have hd3 : l.drop (i + Y.length + 1) = 87 :: (W ++ (45 :: D)) := by rw [← List.drop_drop, hd2]; rfl
  have hd4 : l.drop (i + Y.length + 1 + 1) = W ++ (45 :: D) := by rw [← List.drop_drop, hd3]; rfl
  have hd5 : l.drop (i + Y.length + 1 + 1 + W.length) = 45 :: D := by rw [← List.drop_drop, hd4, List.drop_left]
  have hd6 : l.drop (i + Y.length + 1 + 1 + W.length + 1) = D := by rw [← List.drop_drop, hd5]; rfl
  have bt_ : ∀ n, Byt (l.drop n) := fun n => hb.drop n
  have c0 : comesV l 45 = decide (y < 0) := by
    rw [hl]
    by_cases h : y < 0
    · rw [if_pos h, decide_eq_true h]; rfl
    · rw [if_neg h, decide_eq_false h]
      unfold comesV
      cases Y with
      | nil => simp at y1
      | cons x Y =>
        have := fY x (List.mem_cons_self ..)
        simp only [List.nil_append, List.cons_append, List.head?_cons]
        rw [beq_eq_false_iff_ne]
        intro q
        have := Option.some.inj q
        omega
  unfold week_Parse.f
  refine Ev.bindc (show scan_New_string.f (strOfNums l) = some (strOfNums l, ((0 : Nat) : Int), none) from rfl) (Ev.bindc (sTake_is l hb 0 none 45 (by omega) (by omega)) ?_)
  simp only [leftV_none, List.drop_zero, c0]
  rw [show (if decide (y < 0) = true then ((0 + 1 : Nat) : Int) else ((0 : Nat) : Int)) = (i : Int) by by_cases q : y < 0 <;> simp [hi, q]]
  have hf := sFigures_is l hb i none 4 5 (by omega) (by omega)
  rw [sfig_pre l i fY _ hdi (by rw [← hd2]; exact bt_ _) (by show ¬ (48 ≤ (45 : Int) ∧ (45 : Int) ≤ 57); omega) 4 5 (by decide) (by decide) (by decide) (by omega) (by omega)] at hf
  refine Ev.bind hf ?_
  have j0 : Ev (fun k => week_Parse.j0 k (strOfNums l) y (strOfNums l) ((i + Y.length : Nat) : Int) none) (wdayV y w d) := by
    refine Ev.up ?_
    simp only [week_Parse.j0]
    have t1 := sTake_is l hb (i + Y.length) none 45 (by omega) (by omega)
    rw [leftV_none, hd2] at t1
    have t2 := sTake_is l hb (i + Y.length + 1) none 87 (by omega) (by omega)
    rw [leftV_none, hd3] at t2
    refine Ev.bindc t1 (Ev.pos rfl (Ev.bindc t2 ?_))
    refine Ev.up ?_
    simp only [week_Parse.j1]
    have f2 := sFigures_is l hb (i + Y.length + 1 + 1) none 2 2 (by omega) (by omega)
    rw [sfig_pre l _ fW _ hd4 (by rw [← hd5]; exact bt_ _) (by show ¬ (48 ≤ (45 : Int) ∧ (45 : Int) ≤ 57); omega) 2 2 (by decide) (by decide) (by decide) (by omega) (by omega)] at f2
    have t3 := sTake_is l hb (i + Y.length + 1 + 1 + W.length) none 45 (by omega) (by omega)
    rw [leftV_none, hd5] at t3
    have f3 := sFigures_is l hb (i + Y.length + 1 + 1 + W.length + 1) none 1 1 (by omega) (by omega)
    rw [sfig_pre l _ fD [] (by rw [hd6, List.append_nil]) (fun x hx => by cases hx) (by show ¬ (48 ≤ (0 : Int) ∧ (0 : Int) ≤ 57); omega) 1 1 (by decide) (by decide) (by decide) (by omega) (by omega)] at f3
    have e := sEnd_is l (i + Y.length + 1 + 1 + W.length + 1 + D.length) none (by omega)
    refine Ev.neg (by simp [comesV]) (Ev.bind f2 (Ev.bindc t3 (Ev.pos rfl (Ev.bind f3 (Ev.bindc e (Ev.pos ?_ ?_))))))
    · unfold endV; rw [if_neg (by omega)]; rfl
    · simp only []
      rw [nW, nD, show ((w.toNat : Nat) : Int) = w by omega, show ((d.toNat : Nat) : Int) = d by omega]
      refine Ev.bind (wput_is y w d (by unfold I64; omega) (by unfold I64; omega) (by unfold I64; omega)) (Ev.pos rfl (Ev.pos (by rw [hlt]) (Ev.bindc (wday_is y w d) (Ev.now _))))
  by_cases h : y < 0
  · refine Ev.pos (decide_eq_true h) ?_
    simp only []
    rw [nY, show wrap64 (-((y.natAbs : Nat) : Int)) = y by rw [wr (by omega)]; omega]
    exact j0
  · refine Ev.neg (by simpa using h) ?_
    simp only []
    rw [nY, show ((y.natAbs : Nat) : Int) = y by omega]
    exact j0
theorem sfigV_some (l : List Int) (i : Nat) (e : Option Int) (least most : Int) (hi : i ≤ l.length) (hm : 0 ≤ most) : ∃ (n : Int) (j : Nat) (e' : Option Int), sfigV l i e least most = (n, (j : Int), e') ∧ j ≤ l.length ∧ 0 ≤ n ∧ n < 10 ^ most.toNat := by
  have hp : (0 : Int) < 10 ^ most.toNat := Int.pow_pos (by decide)
  cases e with
  | some c => exact ⟨0, i, some c, rfl, hi, by decide, hp⟩
  | none =>
    have hle := takeV_le (strOfNums (l.drop i)) least most 9223372036854775807
    have hv := takeV_bd (strOfNums (l.drop i)) least most 9223372036854775807 (by decide)
    have hn : (takeV (strOfNums (l.drop i)) least most 9223372036854775807).1 < 10 ^ most.toNat := by
      have b := runV_bd (strOfNums (l.drop i)) most.toNat
      have h1 := nv_lt (strOfNums (l.drop i)) (runV (strOfNums (l.drop i)) most.toNat) (runV_figs _ _)
      have h2 : (10 : Int) ^ (runV (strOfNums (l.drop i)) most.toNat) ≤ 10 ^ most.toNat := by exact_mod_cast Nat.pow_le_pow_right (by decide) b.1
      unfold takeV
      repeat' split
      all_goals (simp only; omega)
    rw [son_size, List.length_drop] at hle
    unfold sfigV
    rcases hq : takeV (strOfNums (l.drop i)) least most 9223372036854775807 with ⟨n, m, q⟩
    rw [hq] at hle hv hn
    simp only at hle hv hn
    cases q with
    | some q => exact ⟨0, i, some q, rfl, hi, by decide, hp⟩
    | none => exact ⟨n, i + m.toNat, none, by simp only; congr 2; omega, by omega, hv.1, hn⟩
theorem wparse_or (l : List Int) (hb : Byt l) (hl : l.length ≤ 1000) : ∃ v, Ev (fun k => week_Parse.f k (strOfNums l)) v ∧ (v = (0, some 2) ∨ ∃ y w d, IsW l y w d ∧ v = wdayV y w d) := by
  have bad : ∀ {g : Nat → Option (Int × Option Int)}, Ev g (0, some 2) → ∃ v, Ev g v ∧ (v = (0, some 2) ∨ ∃ y w d, IsW l y w d ∧ v = wdayV y w d) := fun h => ⟨_, h, Or.inl rfl⟩
  have j1 : ∀ (y : Int) (j : Nat) (e : Option Int) (b : Bool), -99999 ≤ y → y ≤ 99999 → j ≤ l.length → ∃ v, Ev (fun k => week_Parse.j1 k (strOfNums l) y b (strOfNums l) (j : Int) e) v ∧ (v = (0, some 2) ∨ ∃ y w d, IsW l y w d ∧ v = wdayV y w d) := by
    intro y j e b hy1 hy2 hj
    cases b with
    | true =>
      refine bad (Ev.up ?_)
      simp only [week_Parse.j1, if_true]
      exact Ev.now _
    | false =>
      have f2 := sFigures_is l hb j e 2 2 hj (by omega)
      obtain ⟨w, j2, e2, q2, hj2, hw0, hw1⟩ := sfigV_some l j e 2 2 hj (by decide)
      rw [q2] at f2
      have t3 := sTake_is l hb j2 e2 45 hj2 (by omega)
      cases hc : comesV (leftV l j2 e2) 45 with
      | false =>
        rw [hc] at t3
        refine bad (Ev.up ?_)
        simp only [week_Parse.j1, Bool.false_eq_true, if_false]
        exact Ev.bind f2 (Ev.bindc t3 (Ev.neg (by simp) (Ev.now _)))
      | true =>
        rw [hc] at t3
        have hj3 : j2 + 1 ≤ l.length := by
          have := comes_len hc
          unfold leftV at this
          split at this
          · rw [List.length_drop] at this; omega
          · simp at this
        have f3 := sFigures_is l hb (j2 + 1) e2 1 1 hj3 (by omega)
        obtain ⟨d, j4, e4, q4, hj4, hd0, hd1⟩ := sfigV_some l (j2 + 1) e2 1 1 hj3 (by decide)
        rw [q4] at f3
        have en_ := sEnd_is l j4 e4 hj4
        have p2 : (10 : Int) ^ (2 : Int).toNat = 100 := by decide
        have p1 : (10 : Int) ^ (1 : Int).toNat = 10 := by decide
        rw [p2] at hw1
        rw [p1] at hd1
        have head : ∀ {v : Int × Option Int}, Ev (fun k => if (endV l j4 e4).isNone = true then ((week_put.f k y w d).bind fun bt266 => (if bt266.2.isNone = true then (if bt266.1.toList = (strOfNums l).toList then ((week_Day.f y w d).bind fun bt269 => (some (bt269.1, bt269.2))) else (some (0, some 2))) else (some (0, some 2)))) else (some (0, some 2))) v → Ev (fun k => week_Parse.j1 k (strOfNums l) y false (strOfNums l) (j : Int) e) v := by
          intro v h
          refine Ev.up ?_
          simp only [week_Parse.j1, Bool.false_eq_true, if_false]
          exact Ev.bind f2 (Ev.bindc t3 (Ev.pos rfl (Ev.bind f3 (Ev.bindc en_ h))))
        by_cases he : (endV l j4 e4).isNone = true
        · have hp := wput_is y w d (by unfold I64; omega) (by unfold I64; omega) (by unfold I64; omega)
          by_cases ht : (strOfNums (wtext y w d)).toList = (strOfNums l).toList
          · have hlt := son_inj wtext_byt hb ht
            refine ⟨wdayV y w d, head (Ev.pos he (Ev.bind hp (Ev.pos rfl (Ev.pos ht (Ev.bindc (wday_is y w d) (Ev.now _)))))), Or.inr ⟨y, w, d, ⟨⟨hy1, hy2⟩, ⟨hw0, by omega⟩, ⟨hd0, by omega⟩, hlt.symm⟩, rfl⟩⟩
          · exact bad (head (Ev.pos he (Ev.bind hp (Ev.pos rfl (Ev.neg ht (Ev.now _))))))
        · exact bad (head (Ev.neg he (Ev.now _)))
  have j0 : ∀ (y : Int) (j : Nat) (e : Option Int), -99999 ≤ y → y ≤ 99999 → j ≤ l.length → ∃ v, Ev (fun k => week_Parse.j0 k (strOfNums l) y (strOfNums l) (j : Int) e) v ∧ (v = (0, some 2) ∨ ∃ y w d, IsW l y w d ∧ v = wdayV y w d) := by
    intro y j e hy1 hy2 hj
    have t1 := sTake_is l hb j e 45 hj (by omega)
    cases hc : comesV (leftV l j e) 45 with
    | false =>
      rw [hc] at t1
      obtain ⟨v, hv, ho⟩ := j1 y j e true hy1 hy2 hj
      refine ⟨v, Ev.up ?_, ho⟩
      simp only [week_Parse.j0]
      exact Ev.bindc t1 (Ev.neg (by simp) hv)
    | true =>
      rw [hc] at t1
      have hj3 : j + 1 ≤ l.length := by
        have := comes_len hc
        unfold leftV at this
        split at this
        · rw [List.length_drop] at this; omega
        · simp at this
      have t2 := sTake_is l hb (j + 1) e 87 hj3 (by omega)
      cases hc2 : comesV (leftV l (j + 1) e) 87 with
      | false =>
        rw [hc2] at t2
        obtain ⟨v, hv, ho⟩ := j1 y (j + 1) e true hy1 hy2 hj3
        refine ⟨v, Ev.up ?_, ho⟩
        simp only [week_Parse.j0]
        exact Ev.bindc t1 (Ev.pos rfl (Ev.bindc t2 hv))
      | true =>
        rw [hc2] at t2
        have hj4 : j + 1 + 1 ≤ l.length := by
          have := comes_len hc2
          unfold leftV at this
          split at this
          · rw [List.length_drop] at this; omega
          · simp at this
        obtain ⟨v, hv, ho⟩ := j1 y (j + 1 + 1) e false hy1 hy2 hj4
        refine ⟨v, Ev.up ?_, ho⟩
        simp only [week_Parse.j0]
        exact Ev.bindc t1 (Ev.pos rfl (Ev.bindc t2 hv))
  have t0 := sTake_is l hb 0 none 45 (by omega) (by omega)
  obtain ⟨i, hi, hil⟩ : ∃ i : Nat, (if comesV (leftV l 0 none) 45 = true then ((0 + 1 : Nat) : Int) else ((0 : Nat) : Int)) = (i : Int) ∧ i ≤ l.length := by
    by_cases hc : comesV (leftV l 0 none) 45 = true
    · rw [if_pos hc]
      have := comes_len hc
      rw [leftV_none, List.drop_zero] at this
      exact ⟨1, rfl, this⟩
    · rw [if_neg hc]; exact ⟨0, rfl, by omega⟩
  rw [hi] at t0
  have f1 := sFigures_is l hb i none 4 5 hil (by omega)
  obtain ⟨n, j, e, q, hj, hn0, hn1⟩ := sfigV_some l i none 4 5 hil (by decide)
  have p5 : (10 : Int) ^ (5 : Int).toNat = 100000 := by decide
  rw [q] at f1
  rw [p5] at hn1
  by_cases hc : comesV (leftV l 0 none) 45 = true
  · obtain ⟨v, hv, ho⟩ := j0 (-n) j e (by omega) (by omega) hj
    refine ⟨v, ?_, ho⟩
    unfold week_Parse.f
    refine Ev.bindc (show scan_New_string.f (strOfNums l) = some (strOfNums l, ((0 : Nat) : Int), none) from rfl) (Ev.bindc t0 (Ev.bind f1 (Ev.pos hc ?_)))
    simp only []
    rw [show wrap64 (-n) = -n from wr (by omega)]
    exact hv
  · obtain ⟨v, hv, ho⟩ := j0 n j e (by omega) (by omega) hj
    refine ⟨v, ?_, ho⟩
    unfold week_Parse.f
    exact Ev.bindc (show scan_New_string.f (strOfNums l) = some (strOfNums l, ((0 : Nat) : Int), none) from rfl) (Ev.bindc t0 (Ev.bind f1 (Ev.neg hc hv)))
theorem alive_is : Ev (fun k => horologelaw06_alive.f k) true := Ev.of (fun k => horologelaw06_alive.mono k) (k := 30) (by kernel_rfl)
theorem weekOf_bd (n : Int) (h : -4371587 ≤ n ∧ n ≤ 2932896) : (-10000 ≤ (weekOf n).1 ∧ (weekOf n).1 ≤ 10000) ∧ (1 ≤ (weekOf n).2.1 ∧ (weekOf n).2.1 ≤ 60) ∧ 1 ≤ (weekOf n).2.2 ∧ (weekOf n).2.2 ≤ 7 := by
  have yb := dateV_yb n h
  have wy := wyr_is n
  have s := S_succ (wyr n)
  have l := lp_01 (wyr n)
  have wb : -10000 ≤ wyr n ∧ wyr n ≤ 10000 := by unfold wyr; repeat' split
                                                 all_goals omega
  unfold weekOf
  simp only
  omega
theorem wPut_is (n : Int) : Ev (fun k => week_Put.f k n) (if -4371587 ≤ n ∧ n ≤ 2932896 then (strOfNums (wtext (weekOf n).1 (weekOf n).2.1 (weekOf n).2.2), none) else ((⟨#[]⟩ : ByteArray), some 13)) := by
  unfold week_Put.f
  refine Ev.bind (wof_is n) ?_
  by_cases h : -4371587 ≤ n ∧ n ≤ 2932896
  · rw [if_pos h, if_pos h]
    have b := weekOf_bd n h
    exact Ev.pos rfl (Ev.bind (wput_is (weekOf n).1 (weekOf n).2.1 (weekOf n).2.2 (by unfold I64; omega) (by unfold I64; omega) (by unfold I64; omega)) (Ev.now _))
  · rw [if_neg h, if_neg h]
    exact Ev.neg (by simp) (Ev.now _)
/-- A day's week's day is that day. -/
theorem day_back (n : Int) (h : -4371587 ≤ n ∧ n ≤ 2932896) : wdayV (weekOf n).1 (weekOf n).2.1 (weekOf n).2.2 = (n, none) := by
  have b := weekOf_bd n h
  have wy := wyr_is n
  have c := cnt_fth (wyr n)
  have f0 := fth_bd (S (wyr n))
  have f1 := fth_bd (S (wyr n + 1))
  have mf := mon_fth (wyr n)
  have wb : -10000 ≤ wyr n ∧ wyr n ≤ 10000 := b.1
  have e : (weekOf n).1 = wyr n ∧ (weekOf n).2.1 = (thu n - S (wyr n)) / 7 + 1 ∧ (weekOf n).2.2 = (n + 3) % 7 + 1 := ⟨rfl, rfl, rfl⟩
  obtain ⟨e1, e2, e3⟩ := e
  rw [e1, e2, e3] at *
  have ht : thu n = n + 3 - (n + 3) % 7 := rfl
  unfold wdayV
  generalize S (wyr n) = s at *
  generalize S (wyr n + 1) = s' at *
  generalize thu n = t at *
  generalize mon (wyr n) = m at *
  have hsum : m + 7 * ((t - s) / 7 + 1 - 1) + ((n + 3) % 7 + 1) - 1 = n := by omega
  rw [if_pos (show wkOk (wyr n) from ⟨by omega, by omega⟩), if_pos (show dayOk (wyr n) _ _ from ⟨by omega, by omega, by omega, by omega⟩), hsum, if_pos h]
theorem S_uniq {a b t : Int} (h1 : S a ≤ t ∧ t < S (a + 1)) (h2 : S b ≤ t ∧ t < S (b + 1)) : a = b := by
  have x : a < b + 1 := S_lt (by omega)
  have y : b < a + 1 := S_lt (by omega)
  omega
theorem week_back {y w d x : Int} (h : wdayV y w d = (x, none)) : (-4371587 ≤ x ∧ x ≤ 2932896) ∧ weekOf x = (y, w, d) ∧ dayOk y w d ∧ wkOk y ∧ x = mon y + 7 * (w - 1) + d - 1 := by
  unfold wdayV at h
  by_cases hy : wkOk y
  · rw [if_pos hy] at h
    by_cases ho : dayOk y w d
    · rw [if_pos ho] at h
      by_cases hr : -4371587 ≤ mon y + 7 * (w - 1) + d - 1 ∧ mon y + 7 * (w - 1) + d - 1 ≤ 2932896
      · rw [if_pos hr] at h
        have e := (Prod.mk.inj h).1
        rw [e] at hr
        have c := cnt_fth y
        have f0 := fth_bd (S y)
        have f1 := fth_bd (S (y + 1))
        have mf := mon_fth y
        have ho' := ho
        unfold dayOk at ho'
        have ht : thu x = fth (S y) + 7 * (w - 1) := by unfold thu; omega
        have hwy : wyr x = y := S_uniq (t := thu x) (wyr_is x) ⟨by omega, by omega⟩
        refine ⟨hr, ?_, ho, hy, e.symm⟩
        unfold weekOf
        rw [hwy, ht]
        congr 1
        congr 1
        · omega
        · omega
      · rw [if_neg hr] at h; simp at h
    · rw [if_neg ho] at h; simp at h
  · rw [if_neg hy] at h; simp at h
theorem wdayV_or (y w d : Int) : (∃ x, wdayV y w d = (x, none)) ∨ ∃ q, wdayV y w d = (0, some q) := by
  unfold wdayV
  split
  · split
    · split
      · exact Or.inl ⟨_, rfl⟩
      · exact Or.inr ⟨_, rfl⟩
    · exact Or.inr ⟨_, rfl⟩
  · exact Or.inr ⟨_, rfl⟩
theorem next_is {y w d x : Int} (h : wdayV y w d = (x, none)) : wrap64 (Int.tmod d 7 + 1) = (if d = 7 then 1 else d + 1) ∧ (d ≠ 7 → ∀ z, wdayV y w (d + 1) = (z, none) → z = x + 1) := by
  obtain ⟨_, _, ho, _, hx⟩ := week_back h
  unfold dayOk at ho
  refine ⟨?_, ?_⟩
  · rw [tmod_is, if_neg (by omega), wr (by omega)]
    split <;> omega
  · intro hd z hz
    obtain ⟨_, _, _, _, hz2⟩ := week_back hz
    omega
end Go.Proofs.Ytmcicjjaneaokaa.MWeekBack
namespace Go.Proofs.Ytmcicjjaneaokaa.Pure
open Go.RowKit Go.Proofs.Ytmcicjjaneaokaa.MWeekBack Go.Proofs.YtmcicjjaneaokaaW.PrintWords Go.Proofs.YtmcicjjaneaokaaW.PrintLast Go.Proofs.Ytmcicjjaneaokaa.Base
set_option linter.unusedVariables false
set_option linter.unusedSimpArgs false
theorem WeekBack : horologelaw06_WeekBack.Pure := by
  intro n y w d hn hy hw hd
  refine Ev.ok (g := fun k => horologelaw06_WeekBack.f k n y w d) ?_
  unfold horologelaw06_WeekBack.f
  have last : ∀ x, wdayV y w d = (x, none) → Ev (fun k => (week_Day.f y w (wrap64 ((Int.tmod d 7) + 1))).bind fun bt302 => (if bt302.2.isNone = true then (if d = 7 then (some true) else (some (bt302.1 == (wrap64 (x + 1))))) else (some true))) true := by
    intro x hx
    obtain ⟨e, nx⟩ := next_is hx
    obtain ⟨hr, _⟩ := week_back hx
    rw [e]
    refine Ev.bindc (wday_is _ _ _) ?_
    by_cases h7 : d = 7
    · refine Ev.ite (fun _ => Ev.pos h7 (Ev.now _)) (fun _ => Ev.now _)
    · rw [if_neg h7]
      rcases wdayV_or y w (d + 1) with ⟨z, hz⟩ | ⟨q, hq⟩
      · rw [hz]
        refine Ev.pos rfl (Ev.neg h7 (Ev.cast (Ev.now _) ?_))
        rw [nx h7 z hz, show wrap64 (x + 1) = x + 1 from wr (by omega)]
        exact beq_self_eq_true _
      · rw [hq]
        exact Ev.neg (by simp) (Ev.now _)
  refine Ev.bind alive_is (Ev.pos rfl (Ev.bind (wof_is n) ?_))
  by_cases h : -4371587 ≤ n ∧ n ≤ 2932896
  · rw [if_pos h]
    have b := weekOf_bd n h
    have db := day_back n h
    refine Ev.pos rfl (Ev.bind (wPut_is n) ?_)
    rw [if_pos h]
    refine Ev.bindc (wday_is (weekOf n).1 (weekOf n).2.1 (weekOf n).2.2) (Ev.bind (wparse_on (y := (weekOf n).1) (w := (weekOf n).2.1) (d := (weekOf n).2.2) (by omega) (by omega) (by omega)) ?_)
    rw [db]
    refine Ev.pos rfl (Ev.pos rfl (Ev.pos rfl (Ev.pos rfl (Ev.pos rfl (Ev.bindc (weekday_is n) ?_)))))
    simp only []
    refine Ev.pos rfl ?_
    refine Ev.bindc (wday_is y w d) ?_
    rcases wdayV_or y w d with ⟨x, hx⟩ | ⟨q, hq⟩
    · obtain ⟨hr, hwk, _⟩ := week_back hx
      rw [hx]
      refine Ev.pos rfl (Ev.bind (wof_is x) ?_)
      rw [if_pos hr, hwk]
      refine Ev.pos rfl (Ev.pos rfl (Ev.pos rfl ?_))
      simp only []
      rw [bne_self_eq_false]
      refine Ev.up ?_
      simp only [horologelaw06_WeekBack.j0, Bool.false_eq_true, if_false]
      exact last x hx
    · rw [hq]
      exact Ev.neg (by simp) (Ev.now _)
  · rw [if_neg h]
    refine Ev.neg (by simp) (Ev.bindc (wday_is y w d) ?_)
    rcases wdayV_or y w d with ⟨x, hx⟩ | ⟨q, hq⟩
    · obtain ⟨hr, hwk, _⟩ := week_back hx
      rw [hx]
      refine Ev.pos rfl (Ev.bind (wof_is x) ?_)
      rw [if_pos hr, hwk]
      refine Ev.pos rfl (Ev.pos rfl (Ev.pos rfl ?_))
      simp only []
      rw [bne_self_eq_false]
      refine Ev.up ?_
      simp only [horologelaw06_WeekBack.j1, Bool.false_eq_true, if_false]
      exact last x hx
    · rw [hq]
      exact Ev.neg (by simp) (Ev.now _)
end Go.Proofs.Ytmcicjjaneaokaa.Pure
