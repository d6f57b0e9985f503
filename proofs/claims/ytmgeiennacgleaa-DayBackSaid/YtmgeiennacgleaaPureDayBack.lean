/- DayBack: Of and Date undo one another, and the day behind a date is the next date. For every input of Go's kinds; no further condition. -/
import Derived.Test.YtmgeiennacgleaaMDayBackx
import Derived.Test.YtmgeiennacgleaaCalBase
namespace Go.Proofs.Ytmgeiennacgleaa.MDayBack
open Go.RowKit Go.Proofs.YtmgeiennacgleaaW.PrintWords Go.Proofs.YtmgeiennacgleaaW.PrintLast Go.Proofs.YtmgeiennacgleaaW.PrintMore Go.Proofs.Ytmgeiennacgleaa.Base
set_option linter.unusedVariables false
set_option linter.unusedSimpArgs false

theorem leap_is (y : Int) : day_Leap.f y = some (decide (lp y = 1)) := by
  have t4 : Int.tmod y 4 = 0 ↔ y % 4 = 0 := by rw [tmod_is]; split <;> omega
  have t100 : Int.tmod y 100 = 0 ↔ y % 100 = 0 := by rw [tmod_is]; split <;> omega
  have t400 : Int.tmod y 400 = 0 ↔ y % 400 = 0 := by rw [tmod_is]; split <;> omega
  have b400 : (Int.tmod y 400 == 0) = decide (y % 400 = 0) := by rw [← decide_eq_decide.mpr t400]; rfl
  unfold day_Leap.f lp
  simp only [t4, t100, b400]
  by_cases p4 : y % 4 = 0 <;> by_cases p100 : y % 100 = 0 <;> by_cases p400 : y % 400 = 0 <;> simp [p4, p100, p400]
theorem right_is (y : Int) : day_right.f y = some (decide (-9999 ≤ y ∧ y ≤ 9999)) := by
  unfold day_right.f
  split
  · congr 1; simp; omega
  · congr 1; simp; omega
/-- A year's and a month's error's number: 0, or the year is none (13), or the month is none (1). -/
def monthV (y m : Int) : Int × Option Int := if -9999 ≤ y ∧ y ≤ 9999 then (if 1 ≤ m ∧ m ≤ 12 then (ml y m, none) else (0, some 1)) else (0, some 13)
theorem month_j1 (m : Int) (hm : 1 ≤ m ∧ m ≤ 12) (b : Bool) : Ev (fun k => day_Month.j1 k m b) (if b = true then (29, none) else if m = 2 then (28, none) else (30 + (m + m / 8) % 2, none)) := by
  refine Ev.up ?_
  simp only [day_Month.j1]
  refine Ev.ite (fun h => ?_) (fun h => ?_)
  · rw [if_pos h]; exact Ev.now _
  · rw [if_neg h]
    refine Ev.ite (fun h2 => ?_) (fun h2 => ?_)
    · rw [if_pos h2]; exact Ev.now _
    · rw [if_neg h2]
      refine Ev.cast (Ev.now _) ?_
      rw [tdiv_is m 8, if_neg (by omega), wr (n := m / 8) (by omega), wr (n := m + m / 8) (by omega), tmod_is, if_neg (by omega), wr (by omega)]
theorem month_is (y m : Int) : Ev (fun k => day_Month.f k y m) (monthV y m) := by
  unfold day_Month.f monthV
  refine Ev.bindc (right_is y) ?_
  by_cases hy : -9999 ≤ y ∧ y ≤ 9999
  · rw [if_pos hy]
    refine Ev.pos (decide_eq_true hy) ?_
    have bad : ¬ (1 ≤ m ∧ m ≤ 12) → Ev (fun k => day_Month.j0 k y m true) (if 1 ≤ m ∧ m ≤ 12 then (ml y m, none) else (0, some 1)) := by
      intro h
      rw [if_neg h]
      refine Ev.up ?_
      simp only [day_Month.j0, if_true]
      exact Ev.now _
    refine Ev.ite (fun h => bad (by omega)) (fun h => ?_)
    by_cases h2 : m > 12
    · rw [decide_eq_true h2]; exact bad (by omega)
    · rw [decide_eq_false h2, if_pos (by omega)]
      refine Ev.up ?_
      simp only [day_Month.j0, Bool.false_eq_true, if_false]
      have l := lp_01 y
      refine Ev.ite (fun h3 => ?_) (fun h3 => ?_)
      · refine Ev.bindc (leap_is y) (Ev.cast (month_j1 m (by omega) _) ?_)
        unfold ml
        by_cases q : lp y = 1
        · rw [if_pos (decide_eq_true q), if_pos h3, q]; rfl
        · rw [if_neg (by rw [decide_eq_false q]; decide), if_pos h3, if_pos h3, show lp y = 0 by omega]; rfl
      · refine Ev.cast (month_j1 m (by omega) _) ?_
        unfold ml
        rw [if_neg (by decide), if_neg h3, if_neg h3]
  · rw [if_neg hy]
    exact Ev.neg (by rw [decide_eq_false hy]; decide) (Ev.now _)
def badD (y m d : Int) : Option Int := if -9999 ≤ y ∧ y ≤ 9999 then (if ok y m d then none else some 1) else some 13
theorem check_is (y m d : Int) : Ev (fun k => day_check.f k y m d) (badD y m d) := by
  unfold day_check.f badD
  refine Ev.bind (month_is y m) ?_
  unfold monthV
  by_cases hy : -9999 ≤ y ∧ y ≤ 9999
  · simp only [if_pos hy]
    by_cases hm : 1 ≤ m ∧ m ≤ 12
    · simp only [if_pos hm, Option.isNone_none, if_true]
      refine Ev.ite (fun h => ?_) (fun h => Ev.ite (fun h2 => ?_) (fun h2 => ?_))
      · rw [if_neg (show ¬ ok y m d from fun q => by unfold ok at q; omega)]; exact Ev.now _
      · rw [if_neg (show ¬ ok y m d from fun q => by unfold ok at q; omega)]; exact Ev.now _
      · rw [if_pos (show ok y m d from ⟨by omega, by omega, by omega, by omega⟩)]; exact Ev.now _
    · simp only [if_neg hm]
      rw [if_neg (show ¬ ok y m d from fun q => by unfold ok at q; omega)]; exact Ev.now _
  · simp only [if_neg hy]; exact Ev.now _
theorem floor_is (a b : Int) (hb : b = 400 ∨ b = 146097) (ha : -100000000 ≤ a ∧ a ≤ 100000000) : day_floor.f a b = some (a / b) := by
  unfold day_floor.f
  rw [tmod_is, tdiv_is]
  rcases hb with rfl | rfl
  · rw [if_neg (by decide)]
    by_cases h : a < 0
    · simp only [if_pos h]
      rw [wr (n := -(-a / 400)) (by omega)]
      split
      · rw [wr (by omega)]; congr 1; omega
      · congr 1; omega
    · simp only [if_neg h]
      rw [if_neg (by omega), wr (by omega)]
  · rw [if_neg (by decide)]
    by_cases h : a < 0
    · simp only [if_pos h]
      rw [wr (n := -(-a / 146097)) (by omega)]
      split
      · rw [wr (by omega)]; congr 1; omega
      · congr 1; omega
    · simp only [if_neg h]
      rw [if_neg (by omega), wr (by omega)]
theorem number_is (y m d : Int) (hy : -30000 ≤ y ∧ y ≤ 30000) (h1 : 1 ≤ m) (h2 : m ≤ 12) (hd : -1000 ≤ d ∧ d ≤ 1000) : day_number.f y m d = some (nm y m d) := by
  have core : ∀ y m : Int, -30001 ≤ y → y ≤ 30001 → 3 ≤ m → m ≤ 14 →
      wrap64 (wrap64 (wrap64 (wrap64 (wrap64 (wrap64 (y / 400 * 146097) + wrap64 (wrap64 (y - wrap64 (y / 400 * 400)) * 365)) + wrap64 (Int.tdiv (wrap64 (y - wrap64 (y / 400 * 400))) 4)) - wrap64 (Int.tdiv (wrap64 (y - wrap64 (y / 400 * 400))) 100)) + wrap64 (wrap64 (wrap64 (Int.tdiv (wrap64 (wrap64 (153 * wrap64 (m - 3)) + 2)) 5) + d) - 1)) - 719468) = nmM y m d := by
    intro y m a1 a2 a3 a4
    have e : y - y / 400 * 400 = y % 400 := by omega
    rw [wr (n := y / 400 * 400) (by omega), e, wr (n := y % 400) (by omega), tdiv_is, tdiv_is, if_neg (by omega), if_neg (by omega)]
    rw [wr (n := m - 3) (by omega), wr (n := 153 * (m - 3)) (by omega), wr (n := 153 * (m - 3) + 2) (by omega), tdiv_is, if_neg (by omega)]
    rw [wr (n := y / 400 * 146097) (by omega), wr (n := y % 400 * 365) (by omega), wr (n := y % 400 / 4) (by omega), wr (n := y % 400 / 100) (by omega), wr (n := (153 * (m - 3) + 2) / 5) (by omega)]
    rw [wr (n := y / 400 * 146097 + y % 400 * 365) (by omega), wr (n := y / 400 * 146097 + y % 400 * 365 + y % 400 / 4) (by omega), wr (n := y / 400 * 146097 + y % 400 * 365 + y % 400 / 4 - y % 400 / 100) (by omega)]
    rw [wr (n := (153 * (m - 3) + 2) / 5 + d) (by omega), wr (n := (153 * (m - 3) + 2) / 5 + d - 1) (by omega), wr (n := y / 400 * 146097 + y % 400 * 365 + y % 400 / 4 - y % 400 / 100 + ((153 * (m - 3) + 2) / 5 + d - 1)) (by omega), wr (by omega)]
    unfold nmM; omega
  unfold day_number.f
  split
  · rw [wr (n := y - 1) (by omega), floor_is _ _ (Or.inl rfl) (by omega), wr (n := m + 12) (by omega)]
    simp only [Option.bind_some]
    rw [core (y - 1) (m + 12) (by omega) (by omega) (by omega) (by omega), nmM_early y m d h1 (by omega)]
  · rw [floor_is _ _ (Or.inl rfl) (by omega)]
    simp only [Option.bind_some]
    rw [core y m (by omega) (by omega) (by omega) (by omega), nmM_late y m d (by omega) h2]
theorem of_is (y m d : Int) : Ev (fun k => day_Of.f k y m d) (if badD y m d = none then (nm y m d, none) else (0, badD y m d)) := by
  unfold day_Of.f
  refine Ev.bind (check_is y m d) ?_
  by_cases hb : badD y m d = none
  · have hb' := hb
    unfold badD at hb'
    split at hb'
    · split at hb'
      · rename_i hy ho
        obtain ⟨h1, h2, h3, h4⟩ := ho
        have := ml_bd y m
        rw [hb, if_pos rfl]
        refine Ev.pos rfl (Ev.bindc (number_is y m d (by omega) h1 h2 (by omega)) (Ev.now _))
      · cases hb'
    · cases hb'
  · obtain ⟨c, hc⟩ : ∃ c, badD y m d = some c := by
      cases h : badD y m d with
      | none => exact absurd h hb
      | some c => exact ⟨c, rfl⟩
    rw [hc, if_neg (show ¬ (some c = (none : Option Int)) from fun h => by cases h)]
    exact Ev.neg (by simp) (Ev.now _)
theorem nm_11 (y : Int) : nm y 1 1 = S y := by unfold nm; rw [cm_one]; omega
theorem first_is : day_First.f = some (-4371587) := by kernel_rfl
theorem last_is : day_Last.f = some 2932896 := by kernel_rfl
/-- The date of a number. -/
def dateV (n : Int) : Int × Int × Int :=
  let e := (n + 719468) / 146097
  let f := (n + 719468) % 146097
  let r := f - (365 * ofD f + ofD f / 4 - ofD f / 100)
  let m := (5 * r + 2) / 153
  (if m + 3 > 12 then ofD f + e * 400 + 1 else ofD f + e * 400, if m + 3 > 12 then m - 9 else m + 3, r - (153 * m + 2) / 5 + 1)
theorem dateV_ok (n : Int) : ok (dateV n).1 (dateV n).2.1 (dateV n).2.2 ∧ nm (dateV n).1 (dateV n).2.1 (dateV n).2.2 = n := by
  unfold dateV
  simp only
  obtain ⟨f, hf⟩ : ∃ f, f = (n + 719468) % 146097 := ⟨_, rfl⟩
  obtain ⟨e, he⟩ : ∃ e, e = (n + 719468) / 146097 := ⟨_, rfl⟩
  rw [← hf, ← he]
  have o := ofD_is f (by omega) (by omega)
  generalize ofD f = y at *
  obtain ⟨o1, o2, o3, o4⟩ := o
  obtain ⟨r, hr⟩ : ∃ r, r = f - (365 * y + y / 4 - y / 100) := ⟨_, rfl⟩
  rw [← hr]
  have l := lp_01 (y + 1)
  have r0 : 0 ≤ r ∧ r ≤ 365 := by omega
  obtain ⟨m, hm⟩ : ∃ m, m = (5 * r + 2) / 153 := ⟨_, rfl⟩
  rw [← hm]
  have m0 : 0 ≤ m ∧ m ≤ 11 := by omega
  have l4 : lp (y + e * 400 + 1) = lp (y + 1) := by
    unfold lp; congr 1; exact propext ⟨fun h => by omega, fun h => by omega⟩
  by_cases hc : m + 3 > 12
  · rw [if_pos hc, if_pos hc]
    have d := nmM_early (y + e * 400 + 1) (m - 9) (r - (153 * m + 2) / 5 + 1) (by omega) (by omega)
    refine ⟨⟨by omega, by omega, by omega, ?_⟩, ?_⟩
    · unfold ml
      rw [l4]
      have : m = 10 ∨ m = 11 := by omega
      rcases this with h | h <;> subst h
      · rw [if_neg (by decide)]; omega
      · rw [if_pos (by decide)]; omega
    · rw [← d]
      unfold nmM
      rw [show y + e * 400 + 1 - 1 = y + e * 400 by omega, show m - 9 + 12 - 3 = m by omega]
      have q1 : (y + e * 400) / 400 = e := by omega
      have q2 : (y + e * 400) % 400 = y := by omega
      rw [q1, q2]
      omega
  · rw [if_neg hc, if_neg hc]
    have d := nmM_late (y + e * 400) (m + 3) (r - (153 * m + 2) / 5 + 1) (by omega) (by omega)
    refine ⟨⟨by omega, by omega, by omega, ?_⟩, ?_⟩
    · unfold ml
      rw [if_neg (by omega)]
      have : m = 0 ∨ m = 1 ∨ m = 2 ∨ m = 3 ∨ m = 4 ∨ m = 5 ∨ m = 6 ∨ m = 7 ∨ m = 8 ∨ m = 9 := by omega
      rcases this with h | h | h | h | h | h | h | h | h | h <;> (subst h; omega)
    · rw [← d]
      unfold nmM
      rw [show m + 3 - 3 = m by omega]
      have q1 : (y + e * 400) / 400 = e := by omega
      have q2 : (y + e * 400) % 400 = y := by omega
      rw [q1, q2]
      omega
theorem date_is (n : Int) : Ev (fun k => day_Date.f k n) (if -4371587 ≤ n ∧ n ≤ 2932896 then ((dateV n).1, (dateV n).2.1, (dateV n).2.2, none) else (0, 0, 0, some 13)) := by
  unfold day_Date.f
  refine Ev.bindc first_is ?_
  have bad : ¬ (-4371587 ≤ n ∧ n ≤ 2932896) → Ev (fun k => day_Date.j0 k n true) (if -4371587 ≤ n ∧ n ≤ 2932896 then ((dateV n).1, (dateV n).2.1, (dateV n).2.2, none) else (0, 0, 0, some 13)) := by
    intro h
    rw [if_neg h]
    refine Ev.up ?_
    simp only [day_Date.j0, if_true]
    exact Ev.now _
  refine Ev.ite (fun h => bad (by omega)) (fun h => Ev.bindc last_is ?_)
  by_cases h2 : n > 2932896
  · rw [decide_eq_true h2]; exact bad (by omega)
  · rw [decide_eq_false h2, if_pos (by omega)]
    refine Ev.up ?_
    simp only [day_Date.j0, Bool.false_eq_true, if_false]
    have w0 : wrap64 (n + 719468) = n + 719468 := wr (by omega)
    rw [w0, floor_is _ _ (Or.inr rfl) (by omega)]
    simp only [Option.bind_some]
    unfold dateV
    simp only
    have ef : n + 719468 - (n + 719468) / 146097 * 146097 = (n + 719468) % 146097 := by omega
    have eb : -30 ≤ (n + 719468) / 146097 ∧ (n + 719468) / 146097 ≤ 30 := by omega
    have w1 : wrap64 ((n + 719468) / 146097 * 146097) = (n + 719468) / 146097 * 146097 := wr (by omega)
    have w2 : wrap64 ((n + 719468) % 146097) = (n + 719468) % 146097 := wr (by omega)
    have w3 : wrap64 ((n + 719468) / 146097 * 400) = (n + 719468) / 146097 * 400 := wr (by omega)
    simp only [w1, ef, w2, w3]
    have f0 : 0 ≤ (n + 719468) % 146097 ∧ (n + 719468) % 146097 < 146097 := by omega
    generalize (n + 719468) % 146097 = f at *
    generalize (n + 719468) / 146097 = e at *
    clear w0 w1 w2 ef bad
    have t1 : wrap64 (Int.tdiv f 1460) = f / 1460 := by rw [tdiv_is, if_neg (by omega), wr (by omega)]
    have t2 : wrap64 (Int.tdiv f 36524) = f / 36524 := by rw [tdiv_is, if_neg (by omega), wr (by omega)]
    have t3 : wrap64 (Int.tdiv f 146096) = f / 146096 := by rw [tdiv_is, if_neg (by omega), wr (by omega)]
    have t4 : wrap64 (wrap64 (wrap64 (f - f / 1460) + f / 36524) - f / 146096) = f - f / 1460 + f / 36524 - f / 146096 := by
      rw [wr (n := f - f / 1460) (by omega), wr (n := f - f / 1460 + f / 36524) (by omega), wr (by omega)]
    have t5 : Int.tdiv (f - f / 1460 + f / 36524 - f / 146096) 365 = ofD f := by rw [tdiv_is, if_neg (by omega)]; rfl
    have o := ofD_is f f0.1 f0.2
    have l := lp_01 (ofD f + 1)
    have t6 : wrap64 (ofD f) = ofD f := wr (by omega)
    simp only [t1, t2, t3, t4, t5, t6]
    clear t1 t2 t3 t4 t5 t6
    generalize ofD f = y at *
    have t7 : wrap64 (Int.tdiv y 4) = y / 4 := by rw [tdiv_is, if_neg (by omega), wr (by omega)]
    have t8 : wrap64 (Int.tdiv y 100) = y / 100 := by rw [tdiv_is, if_neg (by omega), wr (by omega)]
    have t9 : wrap64 (f - wrap64 (wrap64 (wrap64 (365 * y) + y / 4) - y / 100)) = f - (365 * y + y / 4 - y / 100) := by
      rw [wr (n := 365 * y) (by omega), wr (n := 365 * y + y / 4) (by omega), wr (n := 365 * y + y / 4 - y / 100) (by omega), wr (by omega)]
    have t10 : wrap64 (y + e * 400) = y + e * 400 := wr (by omega)
    simp only [t7, t8, t9, t10]
    clear t7 t8 t9 t10
    have r0 : 0 ≤ f - (365 * y + y / 4 - y / 100) ∧ f - (365 * y + y / 4 - y / 100) ≤ 365 := by omega
    generalize f - (365 * y + y / 4 - y / 100) = r at *
    have t11 : wrap64 (Int.tdiv (wrap64 (wrap64 (5 * r) + 2)) 153) = (5 * r + 2) / 153 := by
      rw [wr (n := 5 * r) (by omega), wr (n := 5 * r + 2) (by omega), tdiv_is, if_neg (by omega), wr (by omega)]
    simp only [t11]
    clear t11
    have m0 : 0 ≤ (5 * r + 2) / 153 ∧ (5 * r + 2) / 153 ≤ 11 := by omega
    generalize (5 * r + 2) / 153 = m at *
    have t12 : wrap64 (Int.tdiv (wrap64 (wrap64 (153 * m) + 2)) 5) = (153 * m + 2) / 5 := by
      rw [wr (n := 153 * m) (by omega), wr (n := 153 * m + 2) (by omega), tdiv_is, if_neg (by omega), wr (by omega)]
    have t13 : wrap64 (wrap64 (r - (153 * m + 2) / 5) + 1) = r - (153 * m + 2) / 5 + 1 := by
      rw [wr (n := r - (153 * m + 2) / 5) (by omega), wr (by omega)]
    have t14 : wrap64 (m + 3) = m + 3 := wr (by omega)
    have t15 : wrap64 (m + 3 - 12) = m - 9 := by rw [wr (by omega)]; omega
    have t16 : wrap64 (y + e * 400 + 1) = y + e * 400 + 1 := wr (by omega)
    simp only [t12, t13, t14, t15, t16]
    refine Ev.ite (fun h => ?_) (fun h => ?_)
    · rw [if_pos h, if_pos h]; exact Ev.now _
    · rw [if_neg h, if_neg h]; exact Ev.now _
theorem alive_is : Ev (fun k => horologelaw05_alive.f k) true := Ev.of (fun k => horologelaw05_alive.mono k) (k := 10) (by kernel_rfl)
theorem dateV_yr (n : Int) : S (dateV n).1 ≤ n ∧ n < S ((dateV n).1 + 1) := by
  have h := dateV_ok n
  have b := nm_bd h.1
  rw [h.2] at b
  exact b
theorem dateV_yb (n : Int) (h : -4371587 ≤ n ∧ n ≤ 2932896) : -9999 ≤ (dateV n).1 ∧ (dateV n).1 ≤ 9999 := by
  have b := dateV_yr n
  have e1 : S (-9999) = -4371587 := by decide
  have e2 : S 10000 = 2932897 := by decide
  have h1 : (dateV n).1 < 10000 := S_lt (by omega)
  have h2 : -9999 < (dateV n).1 + 1 := S_lt (by omega)
  omega
theorem bad_none {y m d : Int} (hy : -9999 ≤ y ∧ y ≤ 9999) (ho : ok y m d) : badD y m d = none := by unfold badD; rw [if_pos hy, if_pos ho]
theorem none_bad {y m d : Int} (h : badD y m d = none) : (-9999 ≤ y ∧ y ≤ 9999) ∧ ok y m d := by
  unfold badD at h
  by_cases hy : -9999 ≤ y ∧ y ≤ 9999
  · rw [if_pos hy] at h
    by_cases ho : ok y m d
    · exact ⟨hy, ho⟩
    · rw [if_neg ho] at h; simp at h
  · rw [if_neg hy] at h; simp at h
theorem nm_range {y m d : Int} (hy : -9999 ≤ y ∧ y ≤ 9999) (ho : ok y m d) : -4371587 ≤ nm y m d ∧ nm y m d ≤ 2932896 := by
  have b := nm_bd ho
  have e1 : S (-9999) = -4371587 := by decide
  have e2 : S 10000 = 2932897 := by decide
  have s1 := S_mono (a := -9999) (b := y) (by omega)
  have s2 := S_mono (a := y + 1) (b := 10000) (by omega)
  omega
theorem dateV_nm {y m d : Int} (ho : ok y m d) : dateV (nm y m d) = (y, m, d) := by
  have h := dateV_ok (nm y m d)
  obtain ⟨a, b, c⟩ := nm_inj h.1 ho h.2
  rcases hq : dateV (nm y m d) with ⟨p, q, r⟩
  rw [hq] at a b c
  simp only at a b c
  rw [a, b, c]
theorem second_is (y m d : Int) : Ev (fun k => (day_Of.f k y m d).bind fun bt141 => (if bt141.2.isNone = true then ((day_Date.f k bt141.1).bind fun bt144 => (if bt144.2.2.2.isNone = true then (some (bt144.1 == y && (bt144.2.1 == m && (bt144.2.2.1 == d)))) else (some false))) else (some true))) true := by
  refine Ev.bind (of_is y m d) ?_
  by_cases hb : badD y m d = none
  · obtain ⟨hy, ho⟩ := none_bad hb
    rw [if_pos hb]
    refine Ev.pos rfl (Ev.bind (date_is _) ?_)
    simp only []
    rw [if_pos (nm_range hy ho), dateV_nm ho]
    exact Ev.pos rfl (Ev.cast (Ev.now _) (by simp))
  · rw [if_neg hb]
    refine Ev.neg ?_ (Ev.now _)
    simp only []
    intro q
    exact hb (Option.isNone_iff_eq_none.mp q)
theorem follows_is (n : Int) (h : -4371587 ≤ n ∧ n < 2932896) : Ev (fun k => horologelaw05_follows.f k (dateV n).1 (dateV n).2.1 (dateV n).2.2 (n + 1)) true := by
  have yb := dateV_yb n (by omega)
  obtain ⟨ho, hn⟩ := dateV_ok n
  have ho' := ho
  unfold ok at ho'
  have mb := ml_bd (dateV n).1 (dateV n).2.1
  unfold horologelaw05_follows.f
  refine Ev.bind (date_is (n + 1)) (Ev.bind (month_is _ _) ?_)
  rw [if_pos (by omega)]
  unfold monthV
  rw [if_pos yb, if_pos (by omega)]
  refine Ev.pos rfl (Ev.pos rfl (Ev.up ?_))
  simp only [horologelaw05_follows.j0, Bool.false_eq_true, if_false]
  generalize hy : (dateV n).1 = y at *
  generalize hm : (dateV n).2.1 = m at *
  generalize hd : (dateV n).2.2 = d at *
  have next : ∀ y' m' d' : Int, ok y' m' d' → nm y' m' d' = n + 1 → dateV (n + 1) = (y', m', d') := by
    intro y' m' d' h1 h2
    rw [← h2]; exact dateV_nm h1
  unfold nm at hn
  refine Ev.ite (fun c => ?_) (fun c => Ev.ite (fun c2 => ?_) (fun c2 => ?_))
  · have e := next y m (d + 1) ⟨ho'.1, ho'.2.1, by omega, by omega⟩ (by unfold nm; omega)
    rw [e]
    refine Ev.pos rfl (Ev.pos rfl (Ev.cast (Ev.now _) ?_))
    rw [wr (by omega)]; exact beq_self_eq_true _
  · have e := next y (m + 1) 1 ⟨by omega, by omega, by omega, by have := ml_bd y (m + 1); omega⟩ (by
      have := cm_succ y m ho'.1 (by omega)
      unfold nm; omega)
    rw [e]
    refine Ev.pos rfl (Ev.pos (show m + 1 = wrap64 (m + 1) from (wr (by omega)).symm) (Ev.now _))
  · have em : m = 12 := by omega
    have e := next (y + 1) 1 1 ⟨by omega, by omega, by omega, by have := ml_bd (y + 1) 1; omega⟩ (by
      have a := cm_last y
      have b := S_succ y
      have c := cm_one (y + 1)
      have hd12 : ml y m = ml y 12 := by rw [em]
      have hc12 : cm y m = cm y 12 := by rw [em]
      unfold nm
      omega)
    rw [e]
    refine Ev.pos (show y + 1 = wrap64 (y + 1) from (wr (by omega)).symm) (Ev.pos rfl (Ev.now _))
end Go.Proofs.Ytmgeiennacgleaa.MDayBack
namespace Go.Proofs.Ytmgeiennacgleaa.Pure
open Go.RowKit Go.Proofs.Ytmgeiennacgleaa.MDayBack Go.Proofs.YtmgeiennacgleaaW.PrintWords Go.Proofs.YtmgeiennacgleaaW.PrintLast Go.Proofs.Ytmgeiennacgleaa.Base
set_option linter.unusedVariables false
set_option linter.unusedSimpArgs false
theorem DayBack : horologelaw05_DayBack.Pure := by
  intro n y m d hn hy hm hd
  refine Ev.ok (g := fun k => horologelaw05_DayBack.f k n y m d) ?_
  unfold horologelaw05_DayBack.f
  refine Ev.bind alive_is (Ev.pos rfl (Ev.bind (date_is n) ?_))
  by_cases h : -4371587 ≤ n ∧ n ≤ 2932896
  · rw [if_pos h]
    have yb := dateV_yb n h
    obtain ⟨ho, hnm⟩ := dateV_ok n
    refine Ev.pos rfl (Ev.bind (of_is _ _ _) ?_)
    simp only []
    rw [if_pos (bad_none yb ho), hnm]
    refine Ev.pos rfl ?_
    rw [bne_self_eq_false]
    refine Ev.up ?_
    simp only [horologelaw05_DayBack.j0, Bool.false_eq_true, if_false]
    have j1 : Ev (fun k => horologelaw05_DayBack.j1 k y m d) true := by
      refine Ev.up ?_
      simp only [horologelaw05_DayBack.j1]
      exact second_is y m d
    refine Ev.bindc last_is (Ev.ite (fun q => ?_) (fun q => j1))
    rw [show wrap64 (n + 1) = n + 1 from wr (by omega)]
    exact Ev.bind (follows_is n (by omega)) (Ev.pos rfl j1)
  · rw [if_neg h]
    exact Ev.neg (by simp) (second_is y m d)
end Go.Proofs.Ytmgeiennacgleaa.Pure
