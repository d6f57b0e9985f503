/- RuleWeeks: a Weekly rule's day is such a weekday of the month, with just so many such ones ahead of it, or none behind it. For every input of Go's kinds; no further condition. -/
import Derived.Test.YtnjeemghkpgcfaaMRuleWeeksx
import Derived.Test.YtnjeemghkpgcfaaCalBase
namespace Go.Proofs.Ytnjeemghkpgcfaa.MRuleWeeks
open Go.RowKit Go.Proofs.YtnjeemghkpgcfaaW.PrintWords Go.Proofs.YtnjeemghkpgcfaaW.PrintLast Go.Proofs.YtnjeemghkpgcfaaW.PrintMore Go.Proofs.Ytnjeemghkpgcfaa.Base
set_option linter.unusedVariables false
set_option linter.unusedSimpArgs false

theorem leap_is (y : Int) : day_Leap.f y = some (decide (lp y = 1)) := by
  have t4 : Int.tmod y 4 = 0 ↔ y % 4 = 0 := by rw [tmod_is]; split <;> omega
  have t100 : Int.tmod y 100 = 0 ↔ y % 100 = 0 := by rw [tmod_is]; split <;> omega
  have t400 : Int.tmod y 400 = 0 ↔ y % 400 = 0 := by rw [tmod_is]; split <;> omega
  have b400 : (Int.tmod y 400 == 0) = decide (y % 400 = 0) := by rw [← decide_eq_decide.mpr t400]; rfl
  unfold day_Leap.f lp
  simp only [t4, t100, b400]
  by_cases p4 : y % 4 = 0 <;> by_cases p100 : y % 100 = 0 <;> by_cases p400 : y % 400 = 0 <;> simp [p4, p100, p400]
theorem right_is (y : Int) : day_right.f y = some (decide (-9999 ≤ y ∧ y ≤ 9999)) := by
  unfold day_right.f
  split
  · congr 1; simp; omega
  · congr 1; simp; omega
/-- A year's and a month's error's number: 0, or the year is none (13), or the month is none (1). -/
def monthV (y m : Int) : Int × Option Int := if -9999 ≤ y ∧ y ≤ 9999 then (if 1 ≤ m ∧ m ≤ 12 then (ml y m, none) else (0, some 1)) else (0, some 13)
theorem month_j1 (m : Int) (hm : 1 ≤ m ∧ m ≤ 12) (b : Bool) : Ev (fun k => day_Month.j1 k m b) (if b = true then (29, none) else if m = 2 then (28, none) else (30 + (m + m / 8) % 2, none)) := by
  refine Ev.up ?_
  simp only [day_Month.j1]
  refine Ev.ite (fun h => ?_) (fun h => ?_)
  · rw [if_pos h]; exact Ev.now _
  · rw [if_neg h]
    refine Ev.ite (fun h2 => ?_) (fun h2 => ?_)
    · rw [if_pos h2]; exact Ev.now _
    · rw [if_neg h2]
      refine Ev.cast (Ev.now _) ?_
      rw [tdiv_is m 8, if_neg (by omega), wr (n := m / 8) (by omega), wr (n := m + m / 8) (by omega), tmod_is, if_neg (by omega), wr (by omega)]
theorem month_is (y m : Int) : Ev (fun k => day_Month.f k y m) (monthV y m) := by
  unfold day_Month.f monthV
  refine Ev.bindc (right_is y) ?_
  by_cases hy : -9999 ≤ y ∧ y ≤ 9999
  · rw [if_pos hy]
    refine Ev.pos (decide_eq_true hy) ?_
    have bad : ¬ (1 ≤ m ∧ m ≤ 12) → Ev (fun k => day_Month.j0 k y m true) (if 1 ≤ m ∧ m ≤ 12 then (ml y m, none) else (0, some 1)) := by
      intro h
      rw [if_neg h]
      refine Ev.up ?_
      simp only [day_Month.j0, if_true]
      exact Ev.now _
    refine Ev.ite (fun h => bad (by omega)) (fun h => ?_)
    by_cases h2 : m > 12
    · rw [decide_eq_true h2]; exact bad (by omega)
    · rw [decide_eq_false h2, if_pos (by omega)]
      refine Ev.up ?_
      simp only [day_Month.j0, Bool.false_eq_true, if_false]
      have l := lp_01 y
      refine Ev.ite (fun h3 => ?_) (fun h3 => ?_)
      · refine Ev.bindc (leap_is y) (Ev.cast (month_j1 m (by omega) _) ?_)
        unfold ml
        by_cases q : lp y = 1
        · rw [if_pos (decide_eq_true q), if_pos h3, q]; rfl
        · rw [if_neg (by rw [decide_eq_false q]; decide), if_pos h3, if_pos h3, show lp y = 0 by omega]; rfl
      · refine Ev.cast (month_j1 m (by omega) _) ?_
        unfold ml
        rw [if_neg (by decide), if_neg h3, if_neg h3]
  · rw [if_neg hy]
    exact Ev.neg (by rw [decide_eq_false hy]; decide) (Ev.now _)
theorem floor_is (a b : Int) (hb : b = 400 ∨ b = 146097) (ha : -100000000 ≤ a ∧ a ≤ 100000000) : day_floor.f a b = some (a / b) := by
  unfold day_floor.f
  rw [tmod_is, tdiv_is]
  rcases hb with rfl | rfl
  · rw [if_neg (by decide)]
    by_cases h : a < 0
    · simp only [if_pos h]
      rw [wr (n := -(-a / 400)) (by omega)]
      split
      · rw [wr (by omega)]; congr 1; omega
      · congr 1; omega
    · simp only [if_neg h]
      rw [if_neg (by omega), wr (by omega)]
  · rw [if_neg (by decide)]
    by_cases h : a < 0
    · simp only [if_pos h]
      rw [wr (n := -(-a / 146097)) (by omega)]
      split
      · rw [wr (by omega)]; congr 1; omega
      · congr 1; omega
    · simp only [if_neg h]
      rw [if_neg (by omega), wr (by omega)]
theorem number_is (y m d : Int) (hy : -30000 ≤ y ∧ y ≤ 30000) (h1 : 1 ≤ m) (h2 : m ≤ 12) (hd : -1000 ≤ d ∧ d ≤ 1000) : day_number.f y m d = some (nm y m d) := by
  have core : ∀ y m : Int, -30001 ≤ y → y ≤ 30001 → 3 ≤ m → m ≤ 14 →
      wrap64 (wrap64 (wrap64 (wrap64 (wrap64 (wrap64 (y / 400 * 146097) + wrap64 (wrap64 (y - wrap64 (y / 400 * 400)) * 365)) + wrap64 (Int.tdiv (wrap64 (y - wrap64 (y / 400 * 400))) 4)) - wrap64 (Int.tdiv (wrap64 (y - wrap64 (y / 400 * 400))) 100)) + wrap64 (wrap64 (wrap64 (Int.tdiv (wrap64 (wrap64 (153 * wrap64 (m - 3)) + 2)) 5) + d) - 1)) - 719468) = nmM y m d := by
    intro y m a1 a2 a3 a4
    have e : y - y / 400 * 400 = y % 400 := by omega
    rw [wr (n := y / 400 * 400) (by omega), e, wr (n := y % 400) (by omega), tdiv_is, tdiv_is, if_neg (by omega), if_neg (by omega)]
    rw [wr (n := m - 3) (by omega), wr (n := 153 * (m - 3)) (by omega), wr (n := 153 * (m - 3) + 2) (by omega), tdiv_is, if_neg (by omega)]
    rw [wr (n := y / 400 * 146097) (by omega), wr (n := y % 400 * 365) (by omega), wr (n := y % 400 / 4) (by omega), wr (n := y % 400 / 100) (by omega), wr (n := (153 * (m - 3) + 2) / 5) (by omega)]
    rw [wr (n := y / 400 * 146097 + y % 400 * 365) (by omega), wr (n := y / 400 * 146097 + y % 400 * 365 + y % 400 / 4) (by omega), wr (n := y / 400 * 146097 + y % 400 * 365 + y % 400 / 4 - y % 400 / 100) (by omega)]
    rw [wr (n := (153 * (m - 3) + 2) / 5 + d) (by omega), wr (n := (153 * (m - 3) + 2) / 5 + d - 1) (by omega), wr (n := y / 400 * 146097 + y % 400 * 365 + y % 400 / 4 - y % 400 / 100 + ((153 * (m - 3) + 2) / 5 + d - 1)) (by omega), wr (by omega)]
    unfold nmM; omega
  unfold day_number.f
  split
  · rw [wr (n := y - 1) (by omega), floor_is _ _ (Or.inl rfl) (by omega), wr (n := m + 12) (by omega)]
    simp only [Option.bind_some]
    rw [core (y - 1) (m + 12) (by omega) (by omega) (by omega) (by omega), nmM_early y m d h1 (by omega)]
  · rw [floor_is _ _ (Or.inl rfl) (by omega)]
    simp only [Option.bind_some]
    rw [core y m (by omega) (by omega) (by omega) (by omega), nmM_late y m d (by omega) h2]
theorem nm_11 (y : Int) : nm y 1 1 = S y := by unfold nm; rw [cm_one]; omega
theorem start_is (y : Int) : day_Start.f y = some (if -20000 ≤ y ∧ y ≤ 20000 then (S y, none) else (0, some 13)) := by
  unfold day_Start.f
  split
  · rw [if_neg (by omega)]
  · split
    · rw [if_neg (by omega)]
    · rw [if_pos (by omega), number_is y 1 1 (by omega) (by decide) (by decide) (by omega), nm_11]
      rfl
theorem weekday_is (n : Int) : day_Weekday.f n = some ((n + 3) % 7 + 1) := by
  unfold day_Weekday.f
  rw [tmod_is n 7]
  split
  · rw [wr (n := -(-n % 7) + 3) (by omega), tmod_is (-(-n % 7) + 3) 7]
    split
    · rw [wr (n := -(-(-(-n % 7) + 3) % 7) + 7) (by omega), tmod_is, if_neg (by omega), wr (by omega)]; congr 1; omega
    · rw [wr (n := (-(-n % 7) + 3) % 7 + 7) (by omega), tmod_is, if_neg (by omega), wr (by omega)]; congr 1; omega
  · rw [wr (n := n % 7 + 3) (by omega), tmod_is (n % 7 + 3) 7, if_neg (by omega), wr (n := (n % 7 + 3) % 7 + 7) (by omega), tmod_is, if_neg (by omega), wr (by omega)]; congr 1; omega
theorem first_is : day_First.f = some (-4371587) := by kernel_rfl
theorem last_is : day_Last.f = some 2932896 := by kernel_rfl
/-- The date of a number. -/
def dateV (n : Int) : Int × Int × Int :=
  let e := (n + 719468) / 146097
  let f := (n + 719468) % 146097
  let r := f - (365 * ofD f + ofD f / 4 - ofD f / 100)
  let m := (5 * r + 2) / 153
  (if m + 3 > 12 then ofD f + e * 400 + 1 else ofD f + e * 400, if m + 3 > 12 then m - 9 else m + 3, r - (153 * m + 2) / 5 + 1)
theorem dateV_ok (n : Int) : ok (dateV n).1 (dateV n).2.1 (dateV n).2.2 ∧ nm (dateV n).1 (dateV n).2.1 (dateV n).2.2 = n := by
  unfold dateV
  simp only
  obtain ⟨f, hf⟩ : ∃ f, f = (n + 719468) % 146097 := ⟨_, rfl⟩
  obtain ⟨e, he⟩ : ∃ e, e = (n + 719468) / 146097 := ⟨_, rfl⟩
  rw [← hf, ← he]
  have o := ofD_is f (by omega) (by omega)
  generalize ofD f = y at *
  obtain ⟨o1, o2, o3, o4⟩ := o
  obtain ⟨r, hr⟩ : ∃ r, r = f - (365 * y + y / 4 - y / 100) := ⟨_, rfl⟩
  rw [← hr]
  have l := lp_01 (y + 1)
  have r0 : 0 ≤ r ∧ r ≤ 365 := by omega
  obtain ⟨m, hm⟩ : ∃ m, m = (5 * r + 2) / 153 := ⟨_, rfl⟩
  rw [← hm]
  have m0 : 0 ≤ m ∧ m ≤ 11 := by omega
  have l4 : lp (y + e * 400 + 1) = lp (y + 1) := by
    unfold lp; congr 1; exact propext ⟨fun h => by omega, fun h => by omega⟩
  by_cases hc : m + 3 > 12
  · rw [if_pos hc, if_pos hc]
    have d := nmM_early (y + e * 400 + 1) (m - 9) (r - (153 * m + 2) / 5 + 1) (by omega) (by omega)
    refine ⟨⟨by omega, by omega, by omega, ?_⟩, ?_⟩
    · unfold ml
      rw [l4]
      have : m = 10 ∨ m = 11 := by omega
      rcases this with h | h <;> subst h
      · rw [if_neg (by decide)]; omega
      · rw [if_pos (by decide)]; omega
    · rw [← d]
      unfold nmM
      rw [show y + e * 400 + 1 - 1 = y + e * 400 by omega, show m - 9 + 12 - 3 = m by omega]
      have q1 : (y + e * 400) / 400 = e := by omega
      have q2 : (y + e * 400) % 400 = y := by omega
      rw [q1, q2]
      omega
  · rw [if_neg hc, if_neg hc]
    have d := nmM_late (y + e * 400) (m + 3) (r - (153 * m + 2) / 5 + 1) (by omega) (by omega)
    refine ⟨⟨by omega, by omega, by omega, ?_⟩, ?_⟩
    · unfold ml
      rw [if_neg (by omega)]
      have : m = 0 ∨ m = 1 ∨ m = 2 ∨ m = 3 ∨ m = 4 ∨ m = 5 ∨ m = 6 ∨ m = 7 ∨ m = 8 ∨ m = 9 := by omega
      rcases this with h | h | h | h | h | h | h | h | h | h <;> (subst h; omega)
    · rw [← d]
      unfold nmM
      rw [show m + 3 - 3 = m by omega]
      have q1 : (y + e * 400) / 400 = e := by omega
      have q2 : (y + e * 400) % 400 = y := by omega
      rw [q1, q2]
      omega
theorem date_is (n : Int) : Ev (fun k => day_Date.f k n) (if -4371587 ≤ n ∧ n ≤ 2932896 then ((dateV n).1, (dateV n).2.1, (dateV n).2.2, none) else (0, 0, 0, some 13)) := by
  unfold day_Date.f
  refine Ev.bindc first_is ?_
  have bad : ¬ (-4371587 ≤ n ∧ n ≤ 2932896) → Ev (fun k => day_Date.j0 k n true) (if -4371587 ≤ n ∧ n ≤ 2932896 then ((dateV n).1, (dateV n).2.1, (dateV n).2.2, none) else (0, 0, 0, some 13)) := by
    intro h
    rw [if_neg h]
    refine Ev.up ?_
    simp only [day_Date.j0, if_true]
    exact Ev.now _
  refine Ev.ite (fun h => bad (by omega)) (fun h => Ev.bindc last_is ?_)
  by_cases h2 : n > 2932896
  · rw [decide_eq_true h2]; exact bad (by omega)
  · rw [decide_eq_false h2, if_pos (by omega)]
    refine Ev.up ?_
    simp only [day_Date.j0, Bool.false_eq_true, if_false]
    have w0 : wrap64 (n + 719468) = n + 719468 := wr (by omega)
    rw [w0, floor_is _ _ (Or.inr rfl) (by omega)]
    simp only [Option.bind_some]
    unfold dateV
    simp only
    have ef : n + 719468 - (n + 719468) / 146097 * 146097 = (n + 719468) % 146097 := by omega
    have eb : -30 ≤ (n + 719468) / 146097 ∧ (n + 719468) / 146097 ≤ 30 := by omega
    have w1 : wrap64 ((n + 719468) / 146097 * 146097) = (n + 719468) / 146097 * 146097 := wr (by omega)
    have w2 : wrap64 ((n + 719468) % 146097) = (n + 719468) % 146097 := wr (by omega)
    have w3 : wrap64 ((n + 719468) / 146097 * 400) = (n + 719468) / 146097 * 400 := wr (by omega)
    simp only [w1, ef, w2, w3]
    have f0 : 0 ≤ (n + 719468) % 146097 ∧ (n + 719468) % 146097 < 146097 := by omega
    generalize (n + 719468) % 146097 = f at *
    generalize (n + 719468) / 146097 = e at *
    clear w0 w1 w2 ef bad
    have t1 : wrap64 (Int.tdiv f 1460) = f / 1460 := by rw [tdiv_is, if_neg (by omega), wr (by omega)]
    have t2 : wrap64 (Int.tdiv f 36524) = f / 36524 := by rw [tdiv_is, if_neg (by omega), wr (by omega)]
    have t3 : wrap64 (Int.tdiv f 146096) = f / 146096 := by rw [tdiv_is, if_neg (by omega), wr (by omega)]
    have t4 : wrap64 (wrap64 (wrap64 (f - f / 1460) + f / 36524) - f / 146096) = f - f / 1460 + f / 36524 - f / 146096 := by
      rw [wr (n := f - f / 1460) (by omega), wr (n := f - f / 1460 + f / 36524) (by omega), wr (by omega)]
    have t5 : Int.tdiv (f - f / 1460 + f / 36524 - f / 146096) 365 = ofD f := by rw [tdiv_is, if_neg (by omega)]; rfl
    have o := ofD_is f f0.1 f0.2
    have l := lp_01 (ofD f + 1)
    have t6 : wrap64 (ofD f) = ofD f := wr (by omega)
    simp only [t1, t2, t3, t4, t5, t6]
    clear t1 t2 t3 t4 t5 t6
    generalize ofD f = y at *
    have t7 : wrap64 (Int.tdiv y 4) = y / 4 := by rw [tdiv_is, if_neg (by omega), wr (by omega)]
    have t8 : wrap64 (Int.tdiv y 100) = y / 100 := by rw [tdiv_is, if_neg (by omega), wr (by omega)]
    have t9 : wrap64 (f - wrap64 (wrap64 (wrap64 (365 * y) + y / 4) - y / 100)) = f - (365 * y + y / 4 - y / 100) := by
      rw [wr (n := 365 * y) (by omega), wr (n := 365 * y + y / 4) (by omega), wr (n := 365 * y + y / 4 - y / 100) (by omega), wr (by omega)]
    have t10 : wrap64 (y + e * 400) = y + e * 400 := wr (by omega)
    simp only [t7, t8, t9, t10]
    clear t7 t8 t9 t10
    have r0 : 0 ≤ f - (365 * y + y / 4 - y / 100) ∧ f - (365 * y + y / 4 - y / 100) ≤ 365 := by omega
    generalize f - (365 * y + y / 4 - y / 100) = r at *
    have t11 : wrap64 (Int.tdiv (wrap64 (wrap64 (5 * r) + 2)) 153) = (5 * r + 2) / 153 := by
      rw [wr (n := 5 * r) (by omega), wr (n := 5 * r + 2) (by omega), tdiv_is, if_neg (by omega), wr (by omega)]
    simp only [t11]
    clear t11
    have m0 : 0 ≤ (5 * r + 2) / 153 ∧ (5 * r + 2) / 153 ≤ 11 := by omega
    generalize (5 * r + 2) / 153 = m at *
    have t12 : wrap64 (Int.tdiv (wrap64 (wrap64 (153 * m) + 2)) 5) = (153 * m + 2) / 5 := by
      rw [wr (n := 153 * m) (by omega), wr (n := 153 * m + 2) (by omega), tdiv_is, if_neg (by omega), wr (by omega)]
    have t13 : wrap64 (wrap64 (r - (153 * m + 2) / 5) + 1) = r - (153 * m + 2) / 5 + 1 := by
      rw [wr (n := r - (153 * m + 2) / 5) (by omega), wr (by omega)]
    have t14 : wrap64 (m + 3) = m + 3 := wr (by omega)
    have t15 : wrap64 (m + 3 - 12) = m - 9 := by rw [wr (by omega)]; omega
    have t16 : wrap64 (y + e * 400 + 1) = y + e * 400 + 1 := wr (by omega)
    simp only [t12, t13, t14, t15, t16]
    refine Ev.ite (fun h => ?_) (fun h => ?_)
    · rw [if_pos h, if_pos h]; exact Ev.now _
    · rw [if_neg h, if_neg h]; exact Ev.now _
def mayR (kind mo wk d : Int) : Prop := (kind = 1 ∧ 1 ≤ d ∧ d ≤ 365 ∧ mo = 0 ∧ wk = 0) ∨ (kind = 2 ∧ 0 ≤ d ∧ d ≤ 365 ∧ mo = 0 ∧ wk = 0) ∨ (kind = 3 ∧ 1 ≤ mo ∧ mo ≤ 12 ∧ 1 ≤ wk ∧ wk ≤ 5 ∧ 0 ≤ d ∧ d ≤ 6)
instance (kind mo wk d : Int) : Decidable (mayR kind mo wk d) := inferInstanceAs (Decidable (_ ∨ _ ∨ _))
def timeR (t : Int) : Prop := -604799 ≤ t ∧ t ≤ 604799
instance (t : Int) : Decidable (timeR t) := inferInstanceAs (Decidable (_ ∧ _))
/-- What is wrong with a rule. -/
def chkV (kind mo wk d t : Int) : Option Int := if 1 ≤ kind ∧ kind ≤ 3 then (if mayR kind mo wk d ∧ timeR t then none else some 1) else some 11
theorem chkV_err (kind mo wk d t : Int) : chkV kind mo wk d t ≠ some 0 := by
  unfold chkV
  repeat' split
  all_goals simp
theorem chkV_none {kind mo wk d t : Int} (h : chkV kind mo wk d t = none) : mayR kind mo wk d ∧ timeR t := by
  unfold chkV at h
  by_cases h1 : 1 ≤ kind ∧ kind ≤ 3
  · rw [if_pos h1] at h
    by_cases h2 : mayR kind mo wk d ∧ timeR t
    · exact h2
    · rw [if_neg h2] at h; cases h
  · rw [if_neg h1] at h; cases h
theorem in_is (x a b : Int) : rule_in.f x a b = some (decide (a ≤ x ∧ x ≤ b)) := by
  unfold rule_in.f
  by_cases h : x ≥ a
  · rw [if_pos h]; congr 1; exact decide_eq_decide.mpr ⟨fun q => ⟨h, q⟩, fun q => q.2⟩
  · rw [if_neg h]; congr 1; exact (decide_eq_false (fun q => h q.1)).symm
theorem may_is (kind mo wk d t : Int) (hk : 1 ≤ kind ∧ kind ≤ 3) : rule_Rule_may.f kind mo wk d t = some (decide (mayR kind mo wk d)) := by
  unfold rule_Rule_may.f
  by_cases h1 : kind = 1
  · rw [if_pos h1, in_is]
    simp only [Option.bind_some]
    by_cases h2 : 1 ≤ d ∧ d ≤ 365
    · rw [if_pos (decide_eq_true h2)]
      by_cases h3 : mo = 0
      · rw [if_pos h3]; congr 1
        rw [Bool.eq_iff_iff, beq_iff_eq, decide_eq_true_iff]
        unfold mayR; constructor
        · intro q; omega
        · intro q; omega
      · rw [if_neg h3]; congr 1; exact (decide_eq_false (fun q => by unfold mayR at q; omega)).symm
    · rw [if_neg (by simpa using h2)]; congr 1; exact (decide_eq_false (fun q => by unfold mayR at q; omega)).symm
  · rw [if_neg h1]
    by_cases h4 : kind = 2
    · rw [if_pos h4, in_is]
      simp only [Option.bind_some]
      by_cases h2 : 0 ≤ d ∧ d ≤ 365
      · rw [if_pos (decide_eq_true h2)]
        by_cases h3 : mo = 0
        · rw [if_pos h3]; congr 1
          rw [Bool.eq_iff_iff, beq_iff_eq, decide_eq_true_iff]
          unfold mayR; constructor
          · intro q; omega
          · intro q; omega
        · rw [if_neg h3]; congr 1; exact (decide_eq_false (fun q => by unfold mayR at q; omega)).symm
      · rw [if_neg (by simpa using h2)]; congr 1; exact (decide_eq_false (fun q => by unfold mayR at q; omega)).symm
    · rw [if_neg h4, in_is]
      simp only [Option.bind_some]
      by_cases h2 : 1 ≤ mo ∧ mo ≤ 12
      · rw [if_pos (decide_eq_true h2), in_is]
        simp only [Option.bind_some]
        by_cases h3 : 1 ≤ wk ∧ wk ≤ 5
        · rw [if_pos (decide_eq_true h3), in_is]
          simp only [Option.bind_some]
          congr 1
          apply decide_eq_decide.mpr
          unfold mayR; constructor
          · intro q; omega
          · intro q; omega
        · rw [if_neg (by simpa using h3)]; congr 1; exact (decide_eq_false (fun q => by unfold mayR at q; omega)).symm
      · rw [if_neg (by simpa using h2)]; congr 1; exact (decide_eq_false (fun q => by unfold mayR at q; omega)).symm
theorem chk_is (kind mo wk d t : Int) : rule_Check.f kind mo wk d t = some (chkV kind mo wk d t) := by
  unfold rule_Check.f chkV
  rw [in_is]
  simp only [Option.bind_some]
  by_cases hk : 1 ≤ kind ∧ kind ≤ 3
  · rw [if_pos (decide_eq_true hk), if_pos hk, may_is kind mo wk d t hk]
    simp only [Option.bind_some]
    by_cases hm : mayR kind mo wk d
    · rw [if_pos (decide_eq_true hm), in_is]
      simp only [Option.bind_some]
      by_cases ht : timeR t
      · rw [if_pos (decide_eq_true (show -604799 ≤ t ∧ t ≤ 604799 from ht)), if_pos ⟨hm, ht⟩]
      · rw [if_neg (by rw [decide_eq_true_iff]; exact ht), if_neg (fun q => ht q.2)]
    · rw [if_neg (by simpa using hm), if_neg (fun q => hm q.1)]
  · rw [if_neg (by simpa using hk), if_neg hk]
theorem lp_red (y : Int) (h : -30000 ≤ y ∧ y ≤ 30000) : lp (wrap64 (Int.tmod y 400 + 2000)) = lp y ∧ 1600 ≤ wrap64 (Int.tmod y 400 + 2000) ∧ wrap64 (Int.tmod y 400 + 2000) ≤ 2400 := by
  have e : wrap64 (Int.tmod y 400 + 2000) = (if y < 0 then -((-y) % 400) else y % 400) + 2000 := by
    rw [tmod_is]
    by_cases hy : y < 0
    · rw [if_pos hy, wr (by omega)]
    · rw [if_neg hy, wr (by omega)]
  rw [e]
  by_cases hy : y < 0
  · rw [if_pos hy]
    refine ⟨?_, by omega, by omega⟩
    unfold lp
    congr 1
    exact propext ⟨fun q => by omega, fun q => by omega⟩
  · rw [if_neg hy]
    refine ⟨?_, by omega, by omega⟩
    unfold lp
    congr 1
    exact propext ⟨fun q => by omega, fun q => by omega⟩
/-- The days of a year ahead of a month; month 13 is the next year's first. -/
def cx (y m : Int) : Int := if m ≤ 12 then cm y m else 365 + lp y
theorem cx_succ (y m : Int) (h1 : 1 ≤ m) (h2 : m ≤ 12) : cx y (m + 1) = cx y m + ml y m := by
  unfold cx
  by_cases h : m ≤ 11
  · rw [if_pos (by omega), if_pos (by omega), cm_succ y m h1 h]
  · rw [if_neg (by omega), if_pos (by omega), show m = 12 by omega, cm_last]
theorem cx_bd (y m : Int) (h1 : 1 ≤ m) (h2 : m ≤ 13) : 0 ≤ cx y m ∧ cx y m ≤ 366 := by
  have l := lp_01 y
  unfold cx
  split
  · have := cm_bd y m h1 (by omega); omega
  · omega
theorem S_bd2 (y : Int) (h : -20001 ≤ y ∧ y ≤ 20001) : -9000000 ≤ S y ∧ S y ≤ 9000000 := by unfold S; omega
theorem rmon_l0 (y w : Int) (hy : -20000 ≤ y ∧ y ≤ 20000) (hw : w ≤ 13) (j : Nat) : ∀ m : Int, 1 ≤ m → m + j = w → Ev (fun k => rule_month.l0 k y w (S y + cx y m) m) (S y + cx y w, none) := by
  have sb := S_bd2 y (by omega)
  induction j with
  | zero =>
    intro m h1 h2
    refine Ev.up ?_
    simp only [rule_month.l0]
    rw [show m = w by omega]
    exact Ev.neg (by omega) (Ev.now _)
  | succ j ih =>
    intro m h1 h2
    obtain ⟨r1, r2, r3⟩ := lp_red y (by omega)
    have e : monthV (wrap64 (Int.tmod y 400 + 2000)) m = (ml y m, none) := by
      unfold monthV
      rw [if_pos (by omega), if_pos (by omega)]
      unfold ml; rw [r1]
    have hm := month_is (wrap64 (Int.tmod y 400 + 2000)) m
    rw [e] at hm
    have b := cx_bd y m h1 (by omega)
    have l := ml_bd y m
    refine Ev.up ?_
    simp only [rule_month.l0]
    refine Ev.pos (by omega) (Ev.bind hm (Ev.pos rfl ?_))
    simp only []
    rw [show wrap64 (S y + cx y m + ml y m) = S y + cx y (m + 1) by rw [cx_succ y m h1 (by omega), wr (by omega)]; omega, show wrap64 (m + 1) = m + 1 from wr (by omega)]
    exact ih (m + 1) (by omega) (by omega)
theorem rmon_is (y w : Int) (hy : -20000 ≤ y ∧ y ≤ 20000) (h1 : 1 ≤ w) (h2 : w ≤ 13) : Ev (fun k => rule_month.f k y w) (S y + cx y w, none) := by
  unfold rule_month.f
  refine Ev.bindc (start_is y) ?_
  rw [if_pos hy]
  refine Ev.pos rfl ?_
  have := rmon_l0 y w hy h2 (w - 1).toNat 1 (by decide) (by omega)
  rw [show cx y 1 = 0 by unfold cx; rw [if_pos (by decide), cm_one], Int.add_zero] at this
  exact this
/-- The day of a Weekly rule. -/
def aheadV (y mo d : Int) : Int := (d - ((S y + cm y mo + 3) % 7 + 1) % 7 + 7) % 7
def wklV (y mo wk d : Int) : Int := if S y + cm y mo + aheadV y mo d + 7 * (wk - 1) ≥ S y + cm y mo + ml y mo then S y + cm y mo + aheadV y mo d + 7 * (wk - 1) - 7 else S y + cm y mo + aheadV y mo d + 7 * (wk - 1)
theorem weekly_is (kind mo wk d t y : Int) (hy : -20000 ≤ y ∧ y ≤ 20000) (hm : 1 ≤ mo ∧ mo ≤ 12) (hw : 1 ≤ wk ∧ wk ≤ 5) (hd : 0 ≤ d ∧ d ≤ 6) : Ev (fun k => rule_Rule_weekly.f k kind mo wk d t y) (wklV y mo wk d, none) := by
  have sb := S_bd2 y (by omega)
  have b := cm_bd y mo hm.1 hm.2
  have l := ml_bd y mo
  have e1 : cx y mo = cm y mo := by unfold cx; rw [if_pos hm.2]
  have e2 : cx y (mo + 1) = cm y mo + ml y mo := by rw [cx_succ y mo hm.1 hm.2, e1]
  have a1 := rmon_is y mo hy hm.1 (by omega)
  have a2 := rmon_is y (mo + 1) hy (by omega) (by omega)
  rw [e1] at a1
  rw [e2] at a2
  unfold rule_Rule_weekly.f
  refine Ev.bind a1 (Ev.pos rfl ?_)
  rw [show wrap64 (mo + 1) = mo + 1 from wr (by omega)]
  refine Ev.bind a2 (Ev.pos rfl (Ev.bindc (weekday_is _) ?_))
  simp only []
  have ea : Int.tmod (wrap64 (wrap64 (d - Int.tmod ((S y + cm y mo + 3) % 7 + 1) 7) + 7)) 7 = aheadV y mo d := by
    unfold aheadV
    rw [tmod_is ((S y + cm y mo + 3) % 7 + 1) 7, if_neg (by omega), wr (n := d - _) (by omega), wr (by omega), tmod_is, if_neg (by omega)]
  have ab : 0 ≤ aheadV y mo d ∧ aheadV y mo d ≤ 6 := by unfold aheadV; omega
  rw [ea, show wrap64 (7 * wrap64 (wk - 1)) = 7 * (wk - 1) by rw [wr (n := wk - 1) (by omega), wr (by omega)], show wrap64 (aheadV y mo d + 7 * (wk - 1)) = aheadV y mo d + 7 * (wk - 1) from wr (by omega), show wrap64 (S y + cm y mo + (aheadV y mo d + 7 * (wk - 1))) = S y + cm y mo + aheadV y mo d + 7 * (wk - 1) by rw [wr (by omega)]; omega, show wrap64 (S y + cm y mo + aheadV y mo d + 7 * (wk - 1) - 7) = S y + cm y mo + aheadV y mo d + 7 * (wk - 1) - 7 from wr (by omega)]
  unfold wklV
  refine Ev.ite (fun q => ?_) (fun q => ?_)
  · rw [if_pos (by omega)]; exact Ev.now _
  · rw [if_neg (by omega)]; exact Ev.now _
theorem wklV_bd (y mo wk d : Int) (hm : 1 ≤ mo ∧ mo ≤ 12) (hw : 1 ≤ wk ∧ wk ≤ 5) : S y + cm y mo ≤ wklV y mo wk d ∧ wklV y mo wk d < S y + cm y mo + ml y mo := by
  have l := ml_bd y mo
  have ab : 0 ≤ aheadV y mo d ∧ aheadV y mo d ≤ 6 := by unfold aheadV; omega
  unfold wklV
  split <;> omega
/-- A right rule's day in a year. -/
def ruleV (kind mo wk d y : Int) : Int := if kind = 3 then wklV y mo wk d else if kind = 1 then (if 60 ≤ d ∧ lp y = 1 then S y + d else S y + d - 1) else S y + d
theorem ruleV_bd (kind mo wk d y : Int) (h : mayR kind mo wk d) (hy : -20000 ≤ y ∧ y ≤ 20000) : -10000000 ≤ ruleV kind mo wk d y ∧ ruleV kind mo wk d y ≤ 10000000 := by
  have sb := S_bd2 y (by omega)
  unfold mayR at h
  unfold ruleV
  by_cases h3 : kind = 3
  · rw [if_pos h3]
    have := wklV_bd y mo wk d (by omega) (by omega)
    have b := cm_bd y mo (by omega) (by omega)
    have l := ml_bd y mo
    omega
  · rw [if_neg h3]
    repeat' split
    all_goals omega
def dayE (kind mo wk d t y : Int) : Int × Option Int := match chkV kind mo wk d t with | some c => (0, some c) | none => if -10001 ≤ y ∧ y ≤ 10001 then (ruleV kind mo wk d y, none) else (0, some 13)
theorem rday_is (kind mo wk d t y : Int) : Ev (fun k => rule_Day.f k kind mo wk d t y) (dayE kind mo wk d t y) := by
  unfold rule_Day.f dayE
  refine Ev.bindc (chk_is kind mo wk d t) ?_
  have hc := @chkV_none kind mo wk d t
  cases hq : chkV kind mo wk d t with
  | some c => exact Ev.neg (by simp) (Ev.now _)
  | none =>
    obtain ⟨hm, ht⟩ := hc hq
    refine Ev.pos rfl (Ev.bindc (in_is _ _ _) ?_)
    simp only []
    by_cases hy : -10001 ≤ y ∧ y ≤ 10001
    · rw [if_pos hy]
      refine Ev.pos (decide_eq_true hy) ?_
      have sb := S_bd2 y (by omega)
      unfold ruleV
      unfold mayR at hm
      refine Ev.ite (fun h3 => ?_) (fun h3 => ?_)
      · rw [if_pos h3]
        exact Ev.bind (weekly_is kind mo wk d t y (by omega) (by omega) (by omega) (by omega)) (Ev.now _)
      · rw [if_neg h3]
        refine Ev.bindc (start_is y) ?_
        rw [if_pos (show -20000 ≤ y ∧ y ≤ 20000 by omega)]
        refine Ev.pos rfl ?_
        simp only []
        rw [show wrap64 (S y + d) = S y + d from wr (by omega), show wrap64 (S y + d - 1) = S y + d - 1 from wr (by omega)]
        refine Ev.ite (fun h1 => ?_) (fun h1 => ?_)
        · rw [if_pos h1]
          refine Ev.ite (fun h60 => ?_) (fun h60 => ?_)
          · rw [if_neg (by omega)]; exact Ev.now _
          · refine Ev.bindc (leap_is y) ?_
            by_cases hl : lp y = 1
            · rw [if_pos (show 60 ≤ d ∧ lp y = 1 from ⟨by omega, hl⟩)]; exact Ev.pos (decide_eq_true hl) (Ev.now _)
            · rw [if_neg (show ¬ (60 ≤ d ∧ lp y = 1) from fun q => hl q.2)]; exact Ev.neg (by simpa using hl) (Ev.now _)
        · rw [if_neg h1]; exact Ev.now _
    · rw [if_neg hy]
      exact Ev.neg (by simpa using hy) (Ev.now _)
theorem alive_is : Ev (fun k => horologelaw16_alive.f k) true := Ev.of (fun k => horologelaw16_alive.mono k) (k := 40) (by kernel_rfl)
/-- The date of a Weekly rule's day. -/
theorem wkl_date (y mo wk d : Int) (hm : 1 ≤ mo ∧ mo ≤ 12) (hw : 1 ≤ wk ∧ wk ≤ 5) :
    ∃ dd, dateV (wklV y mo wk d) = (y, mo, dd) ∧ wklV y mo wk d = S y + cm y mo + dd - 1 ∧ 1 ≤ dd ∧ dd ≤ ml y mo := by
  have b := wklV_bd y mo wk d hm hw
  obtain ⟨h1, h2⟩ := dateV_ok (wklV y mo wk d)
  have ho : ok y mo (wklV y mo wk d - (S y + cm y mo) + 1) := ⟨hm.1, hm.2, by omega, by omega⟩
  have hn : nm y mo (wklV y mo wk d - (S y + cm y mo) + 1) = wklV y mo wk d := by unfold nm; omega
  obtain ⟨e1, e2, e3⟩ := nm_inj h1 ho (h2.trans hn.symm)
  refine ⟨wklV y mo wk d - (S y + cm y mo) + 1, ?_, by omega, by omega, by omega⟩
  exact Prod.ext e1 (Prod.ext e2 e3)
end Go.Proofs.Ytnjeemghkpgcfaa.MRuleWeeks
namespace Go.Proofs.Ytnjeemghkpgcfaa.Pure
open Go.RowKit Go.Proofs.Ytnjeemghkpgcfaa.MRuleWeeks Go.Proofs.YtnjeemghkpgcfaaW.PrintWords Go.Proofs.YtnjeemghkpgcfaaW.PrintLast Go.Proofs.Ytnjeemghkpgcfaa.Base
set_option linter.unusedVariables false
set_option linter.unusedSimpArgs false
theorem RuleWeeks : horologelaw16_RuleWeeks.Pure := by
  intro mo wk d y hmo hwk hd hy
  refine Ev.ok (g := fun k => horologelaw16_RuleWeeks.f k mo wk d y) ?_
  unfold horologelaw16_RuleWeeks.f
  refine Ev.bind alive_is (Ev.pos rfl (Ev.bind (rday_is 3 mo wk d 0 y) ?_))
  unfold dayE
  have hc := @chkV_none 3 mo wk d 0
  cases hq : chkV 3 mo wk d 0 with
  | some c => exact Ev.neg (by simp) (Ev.now _)
  | none =>
    obtain ⟨hm, _⟩ := hc hq
    have hm' : (1 ≤ mo ∧ mo ≤ 12) ∧ (1 ≤ wk ∧ wk ≤ 5) ∧ 0 ≤ d ∧ d ≤ 6 := by unfold mayR at hm; omega
    obtain ⟨h1, h2, h3⟩ := hm'
    simp only []
    by_cases hyy : -10001 ≤ y ∧ y ≤ 10001
    · rw [if_pos hyy]
      have er : ruleV 3 mo wk d y = wklV y mo wk d := by unfold ruleV; rw [if_pos rfl]
      rw [er]
      obtain ⟨dd, e1, e2, e3, e4⟩ := wkl_date y mo wk d h1 h2
      have sb := S_bd2 y (by omega)
      have cb := cm_bd y mo h1.1 h1.2
      have l := ml_bd y mo
      have cml := cm_ml y mo h1.1 h1.2
      have ss := S_succ y
      have s1 : S (-9999) = -4371587 := by decide
      have s2 : S 10000 = 2932897 := by kernel_rfl
      refine Ev.pos rfl (Ev.bind (date_is _) ?_)
      simp only [e1]
      by_cases hr : -9999 ≤ y ∧ y ≤ 9999
      · have m1 := S_mono (show -9999 ≤ y from hr.1)
        have m2 := S_mono (show y + 1 ≤ 10000 by omega)
        rw [if_pos (by omega)]
        have hmv := month_is y mo
        have ev : monthV y mo = (ml y mo, none) := by unfold monthV; rw [if_pos hr, if_pos h1]
        rw [ev] at hmv
        refine Ev.pos rfl (Ev.bind hmv (Ev.pos rfl (Ev.pos rfl (Ev.pos rfl (Ev.bindc (weekday_is _) ?_)))))
        simp only []
        have ab : 0 ≤ aheadV y mo d ∧ aheadV y mo d ≤ 6 := by unfold aheadV; omega
        have wd : Int.tmod ((wklV y mo wk d + 3) % 7 + 1) 7 = d := by
          rw [tmod_is, if_neg (by omega)]
          unfold wklV aheadV
          split <;> omega
        refine Ev.pos wd ?_
        rw [show wrap64 (dd - 1) = dd - 1 from wr (by omega), show wrap64 (dd + 7) = dd + 7 from wr (by omega), show wrap64 (wk - 1) = wk - 1 from wr (by omega), show wrap64 (Int.tdiv (dd - 1) 7) = (dd - 1) / 7 by rw [tdiv_is, if_neg (by omega), wr (by omega)]]
        unfold wklV at e2
        refine Ev.ite (fun _ => Ev.now _) (fun q => Ev.ite (fun q5 => Ev.cast (Ev.now _) ?_) (fun q5 => ?_))
        · apply decide_eq_true
          split at e2 <;> omega
        · exfalso
          split at e2 <;> omega
      · rw [if_neg (by
          by_cases hlo : y < -9999
          · have m1 := S_mono (show y + 1 ≤ -9999 by omega)
            omega
          · have m2 := S_mono (show 10000 ≤ y by omega)
            omega)]
        refine Ev.neg (by simp) (Ev.ite (fun _ => Ev.now _) (fun q => Ev.cast (Ev.now _) (decide_eq_true (by omega))))
    · rw [if_neg hyy]
      exact Ev.neg (by simp) (Ev.now _)
end Go.Proofs.Ytnjeemghkpgcfaa.Pure
