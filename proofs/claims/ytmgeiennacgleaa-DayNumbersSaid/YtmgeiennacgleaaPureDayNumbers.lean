/- DayNumbers: the dates and weekdays of any days' numbers are the document's. For every number of Go's kinds; no further condition. -/
import Derived.Test.YtmgeiennacgleaaMDayNumbersx
import Derived.Test.YtmgeiennacgleaaCalBase
namespace Go.Proofs.Ytmgeiennacgleaa.MDayNumbers
open Go.RowKit Go.Proofs.YtmgeiennacgleaaW.PrintWords Go.Proofs.YtmgeiennacgleaaW.PrintLast Go.Proofs.YtmgeiennacgleaaW.PrintMore Go.Proofs.Ytmgeiennacgleaa.Base
set_option linter.unusedVariables false
set_option linter.unusedSimpArgs false

theorem num_is (e : Option Int) : horologenum_Num.f e = some (match e with | none => 0 | some c => if c = 0 then -1 else c) := by
  unfold horologenum_Num.f
  cases e <;> simp
  split <;> rfl
theorem leap_is (y : Int) : day_Leap.f y = some (decide (lp y = 1)) := by
  have t4 : Int.tmod y 4 = 0 ↔ y % 4 = 0 := by rw [tmod_is]; split <;> omega
  have t100 : Int.tmod y 100 = 0 ↔ y % 100 = 0 := by rw [tmod_is]; split <;> omega
  have t400 : Int.tmod y 400 = 0 ↔ y % 400 = 0 := by rw [tmod_is]; split <;> omega
  have b400 : (Int.tmod y 400 == 0) = decide (y % 400 = 0) := by rw [← decide_eq_decide.mpr t400]; rfl
  unfold day_Leap.f lp
  simp only [t4, t100, b400]
  by_cases p4 : y % 4 = 0 <;> by_cases p100 : y % 100 = 0 <;> by_cases p400 : y % 400 = 0 <;> simp [p4, p100, p400]
theorem right_is (y : Int) : day_right.f y = some (decide (-9999 ≤ y ∧ y ≤ 9999)) := by
  unfold day_right.f
  split
  · congr 1; simp; omega
  · congr 1; simp; omega
/-- A year's and a month's error's number: 0, or the year is none (13), or the month is none (1). -/
def monthV (y m : Int) : Int × Option Int := if -9999 ≤ y ∧ y ≤ 9999 then (if 1 ≤ m ∧ m ≤ 12 then (ml y m, none) else (0, some 1)) else (0, some 13)
theorem month_j1 (m : Int) (hm : 1 ≤ m ∧ m ≤ 12) (b : Bool) : Ev (fun k => day_Month.j1 k m b) (if b = true then (29, none) else if m = 2 then (28, none) else (30 + (m + m / 8) % 2, none)) := by
  refine Ev.up ?_
  simp only [day_Month.j1]
  refine Ev.ite (fun h => ?_) (fun h => ?_)
  · rw [if_pos h]; exact Ev.now _
  · rw [if_neg h]
    refine Ev.ite (fun h2 => ?_) (fun h2 => ?_)
    · rw [if_pos h2]; exact Ev.now _
    · rw [if_neg h2]
      refine Ev.cast (Ev.now _) ?_
      rw [tdiv_is m 8, if_neg (by omega), wr (n := m / 8) (by omega), wr (n := m + m / 8) (by omega), tmod_is, if_neg (by omega), wr (by omega)]
theorem month_is (y m : Int) : Ev (fun k => day_Month.f k y m) (monthV y m) := by
  unfold day_Month.f monthV
  refine Ev.bindc (right_is y) ?_
  by_cases hy : -9999 ≤ y ∧ y ≤ 9999
  · rw [if_pos hy]
    refine Ev.pos (decide_eq_true hy) ?_
    have bad : ¬ (1 ≤ m ∧ m ≤ 12) → Ev (fun k => day_Month.j0 k y m true) (if 1 ≤ m ∧ m ≤ 12 then (ml y m, none) else (0, some 1)) := by
      intro h
      rw [if_neg h]
      refine Ev.up ?_
      simp only [day_Month.j0, if_true]
      exact Ev.now _
    refine Ev.ite (fun h => bad (by omega)) (fun h => ?_)
    by_cases h2 : m > 12
    · rw [decide_eq_true h2]; exact bad (by omega)
    · rw [decide_eq_false h2, if_pos (by omega)]
      refine Ev.up ?_
      simp only [day_Month.j0, Bool.false_eq_true, if_false]
      have l := lp_01 y
      refine Ev.ite (fun h3 => ?_) (fun h3 => ?_)
      · refine Ev.bindc (leap_is y) (Ev.cast (month_j1 m (by omega) _) ?_)
        unfold ml
        by_cases q : lp y = 1
        · rw [if_pos (decide_eq_true q), if_pos h3, q]; rfl
        · rw [if_neg (by rw [decide_eq_false q]; decide), if_pos h3, if_pos h3, show lp y = 0 by omega]; rfl
      · refine Ev.cast (month_j1 m (by omega) _) ?_
        unfold ml
        rw [if_neg (by decide), if_neg h3, if_neg h3]
  · rw [if_neg hy]
    exact Ev.neg (by rw [decide_eq_false hy]; decide) (Ev.now _)
instance (y m d : Int) : Decidable (ok y m d) := inferInstanceAs (Decidable (_ ∧ _ ∧ _ ∧ _))
def badD (y m d : Int) : Option Int := if -9999 ≤ y ∧ y ≤ 9999 then (if ok y m d then none else some 1) else some 13
theorem check_is (y m d : Int) : Ev (fun k => day_check.f k y m d) (badD y m d) := by
  unfold day_check.f badD
  refine Ev.bind (month_is y m) ?_
  unfold monthV
  by_cases hy : -9999 ≤ y ∧ y ≤ 9999
  · simp only [if_pos hy]
    by_cases hm : 1 ≤ m ∧ m ≤ 12
    · simp only [if_pos hm, Option.isNone_none, if_true]
      refine Ev.ite (fun h => ?_) (fun h => Ev.ite (fun h2 => ?_) (fun h2 => ?_))
      · rw [if_neg (show ¬ ok y m d from fun q => by unfold ok at q; omega)]; exact Ev.now _
      · rw [if_neg (show ¬ ok y m d from fun q => by unfold ok at q; omega)]; exact Ev.now _
      · rw [if_pos (show ok y m d from ⟨by omega, by omega, by omega, by omega⟩)]; exact Ev.now _
    · simp only [if_neg hm]
      rw [if_neg (show ¬ ok y m d from fun q => by unfold ok at q; omega)]; exact Ev.now _
  · simp only [if_neg hy]; exact Ev.now _
theorem floor_is (a b : Int) (hb : b = 400 ∨ b = 146097) (ha : -100000000 ≤ a ∧ a ≤ 100000000) : day_floor.f a b = some (a / b) := by
  unfold day_floor.f
  rw [tmod_is, tdiv_is]
  rcases hb with rfl | rfl
  · rw [if_neg (by decide)]
    by_cases h : a < 0
    · simp only [if_pos h]
      rw [wr (n := -(-a / 400)) (by omega)]
      split
      · rw [wr (by omega)]; congr 1; omega
      · congr 1; omega
    · simp only [if_neg h]
      rw [if_neg (by omega), wr (by omega)]
  · rw [if_neg (by decide)]
    by_cases h : a < 0
    · simp only [if_pos h]
      rw [wr (n := -(-a / 146097)) (by omega)]
      split
      · rw [wr (by omega)]; congr 1; omega
      · congr 1; omega
    · simp only [if_neg h]
      rw [if_neg (by omega), wr (by omega)]
theorem number_is (y m d : Int) (hy : -30000 ≤ y ∧ y ≤ 30000) (h1 : 1 ≤ m) (h2 : m ≤ 12) (hd : -1000 ≤ d ∧ d ≤ 1000) : day_number.f y m d = some (nm y m d) := by
  have core : ∀ y m : Int, -30001 ≤ y → y ≤ 30001 → 3 ≤ m → m ≤ 14 →
      wrap64 (wrap64 (wrap64 (wrap64 (wrap64 (wrap64 (y / 400 * 146097) + wrap64 (wrap64 (y - wrap64 (y / 400 * 400)) * 365)) + wrap64 (Int.tdiv (wrap64 (y - wrap64 (y / 400 * 400))) 4)) - wrap64 (Int.tdiv (wrap64 (y - wrap64 (y / 400 * 400))) 100)) + wrap64 (wrap64 (wrap64 (Int.tdiv (wrap64 (wrap64 (153 * wrap64 (m - 3)) + 2)) 5) + d) - 1)) - 719468) = nmM y m d := by
    intro y m a1 a2 a3 a4
    have e : y - y / 400 * 400 = y % 400 := by omega
    rw [wr (n := y / 400 * 400) (by omega), e, wr (n := y % 400) (by omega), tdiv_is, tdiv_is, if_neg (by omega), if_neg (by omega)]
    rw [wr (n := m - 3) (by omega), wr (n := 153 * (m - 3)) (by omega), wr (n := 153 * (m - 3) + 2) (by omega), tdiv_is, if_neg (by omega)]
    rw [wr (n := y / 400 * 146097) (by omega), wr (n := y % 400 * 365) (by omega), wr (n := y % 400 / 4) (by omega), wr (n := y % 400 / 100) (by omega), wr (n := (153 * (m - 3) + 2) / 5) (by omega)]
    rw [wr (n := y / 400 * 146097 + y % 400 * 365) (by omega), wr (n := y / 400 * 146097 + y % 400 * 365 + y % 400 / 4) (by omega), wr (n := y / 400 * 146097 + y % 400 * 365 + y % 400 / 4 - y % 400 / 100) (by omega)]
    rw [wr (n := (153 * (m - 3) + 2) / 5 + d) (by omega), wr (n := (153 * (m - 3) + 2) / 5 + d - 1) (by omega), wr (n := y / 400 * 146097 + y % 400 * 365 + y % 400 / 4 - y % 400 / 100 + ((153 * (m - 3) + 2) / 5 + d - 1)) (by omega), wr (by omega)]
    unfold nmM; omega
  unfold day_number.f
  split
  · rw [wr (n := y - 1) (by omega), floor_is _ _ (Or.inl rfl) (by omega), wr (n := m + 12) (by omega)]
    simp only [Option.bind_some]
    rw [core (y - 1) (m + 12) (by omega) (by omega) (by omega) (by omega), nmM_early y m d h1 (by omega)]
  · rw [floor_is _ _ (Or.inl rfl) (by omega)]
    simp only [Option.bind_some]
    rw [core y m (by omega) (by omega) (by omega) (by omega), nmM_late y m d (by omega) h2]
theorem of_is (y m d : Int) : Ev (fun k => day_Of.f k y m d) (if badD y m d = none then (nm y m d, none) else (0, badD y m d)) := by
  unfold day_Of.f
  refine Ev.bind (check_is y m d) ?_
  by_cases hb : badD y m d = none
  · have hb' := hb
    unfold badD at hb'
    split at hb'
    · split at hb'
      · rename_i hy ho
        obtain ⟨h1, h2, h3, h4⟩ := ho
        have := ml_bd y m
        rw [hb, if_pos rfl]
        refine Ev.pos rfl (Ev.bindc (number_is y m d (by omega) h1 h2 (by omega)) (Ev.now _))
      · cases hb'
    · cases hb'
  · obtain ⟨c, hc⟩ : ∃ c, badD y m d = some c := by
      cases h : badD y m d with
      | none => exact absurd h hb
      | some c => exact ⟨c, rfl⟩
    rw [hc, if_neg (show ¬ (some c = (none : Option Int)) from fun h => by cases h)]
    exact Ev.neg (by simp) (Ev.now _)
theorem nm_11 (y : Int) : nm y 1 1 = S y := by unfold nm; rw [cm_one]; omega
theorem rleap_is (y : Int) : horologeref05_Leap.f y = some (decide (lp y = 1)) := by
  have t4 : Int.tmod y 4 = 0 ↔ y % 4 = 0 := by rw [tmod_is]; split <;> omega
  have t100 : Int.tmod y 100 = 0 ↔ y % 100 = 0 := by rw [tmod_is]; split <;> omega
  have t400 : Int.tmod y 400 = 0 ↔ y % 400 = 0 := by rw [tmod_is]; split <;> omega
  have b100 : (Int.tmod y 100 != 0) = !decide (y % 100 = 0) := by rw [← decide_eq_decide.mpr t100]; rfl
  unfold horologeref05_Leap.f lp
  simp only [t4, t400, b100]
  by_cases p400 : y % 400 = 0
  · have p4 : y % 4 = 0 := by omega
    simp [p4, p400]
  · by_cases p4 : y % 4 = 0 <;> by_cases p100 : y % 100 = 0 <;> simp [p4, p100, p400]
theorem rdays_is (y : Int) : horologeref05_Days.f y = some (365 + lp y) := by
  unfold horologeref05_Days.f
  have l := lp_01 y
  rw [rleap_is]
  simp only [Option.bind_some]
  by_cases h : lp y = 1
  · rw [if_pos (decide_eq_true h), h]; rfl
  · rw [if_neg (by rw [decide_eq_false h]; decide), show lp y = 0 by omega]; rfl
theorem rmonth_is (y m : Int) (h1 : 1 ≤ m) (h2 : m ≤ 12) : horologeref05_Month.f y m = some (ml y m) := by
  unfold horologeref05_Month.f
  simp only [Option.bind_some, rleap_is]
  have l := lp_01 y
  have w : wrap64 (m - 1) = m - 1 := wr (by omega)
  have hr : m ≠ 2 ∨ lp y = 0 → rd [31, 28, 31, 30, 31, 30, 31, 31, 30, 31, 30, 31] (m - 1) = ml y m := by
    intro h
    unfold ml
    have := m12 h1 h2
    rcases this with e | e | e | e | e | e | e | e | e | e | e | e <;> subst e
    all_goals first
      | (rw [if_neg (by decide)]; decide)
      | (rw [if_pos (by decide), h.resolve_left (by decide)]; decide)
  rw [w]
  by_cases h : m = 2
  · rw [if_pos h]
    by_cases q : lp y = 1
    · rw [if_pos (decide_eq_true q)]
      unfold ml
      rw [if_pos h, q]; rfl
    · rw [if_neg (by rw [decide_eq_false q]; decide), if_pos (by omega), if_pos (by simp; omega), hr (by omega)]
  · rw [if_neg h, if_pos (by omega), if_pos (by simp; omega), hr (by omega)]
theorem rstart_l2 (y n : Int) (hn : -100000000 ≤ n ∧ n ≤ 100000000) (m : Nat) : ∀ x : Int, 1970 ≤ x → x + m = y → y ≤ 2400 → Ev (fun k => horologeref05_Start.l2 k y (n + S x) x) (n + S y) := by
  induction m with
  | zero =>
    intro x h1 h2 h3
    refine Ev.up ?_
    simp only [horologeref05_Start.l2]
    rw [show x = y by omega]
    exact Ev.neg (by omega) (Ev.now _)
  | succ m ih =>
    intro x h1 h2 h3
    have l := lp_01 x
    have s := S_succ x
    have b1 := S_mono h1
    have b2 := S_mono (show x ≤ 2400 by omega)
    have e1 : S 2400 = 157054 := by decide
    have e0 := S_1970
    refine Ev.up ?_
    simp only [horologeref05_Start.l2, rdays_is, Option.bind_some]
    rw [wr (n := x + 1) (by omega), wr (n := n + S x + (365 + lp x)) (by omega)]
    have := ih (x + 1) (by omega) (by omega) h3
    rw [s] at this
    refine Ev.pos (by omega) ?_
    rw [show n + S x + (365 + lp x) = n + (S x + 365 + lp x) by omega]
    exact this
theorem rstart_l1 (m : Nat) : ∀ y n : Int, 1970 ≤ y → y < 2370 + 400 * m → m ≤ 80 → -50000000 ≤ n → n ≤ 50000000 - 146097 * m → Ev (fun k => horologeref05_Start.l1 k y n) (n + S y) := by
  induction m with
  | zero =>
    intro y n h1 h2 h3 h4 h5
    refine Ev.up ?_
    simp only [horologeref05_Start.l1]
    refine Ev.neg (by omega) ?_
    have := rstart_l2 y n (by omega) (y - 1970).toNat 1970 (by decide) (by omega) (by omega)
    rw [S_1970, Int.add_zero] at this
    exact this
  | succ m ih =>
    intro y n h1 h2 h3 h4 h5
    by_cases h : y ≥ 2370
    · refine Ev.up ?_
      simp only [horologeref05_Start.l1]
      refine Ev.pos h ?_
      rw [wr (n := y - 400) (by omega), wr (n := n + 146097) (by omega)]
      have := ih (y - 400) (n + 146097) (by omega) (by omega) (by omega) (by omega) (by omega)
      have e := S_400 (y - 400)
      rw [show y - 400 + 400 = y by omega] at e
      rw [show n + S y = n + 146097 + S (y - 400) by omega]
      exact this
    · exact ih y n h1 (by omega) (by omega) h4 (by omega)
theorem rstart_l0 (m : Nat) : ∀ y n : Int, 1970 - 400 * m ≤ y → y ≤ 30000 → m ≤ 80 → -50000000 + 146097 * m ≤ n → n ≤ 30000000 → Ev (fun k => horologeref05_Start.l0 k y n) (n + S y) := by
  induction m with
  | zero =>
    intro y n h1 h2 h3 h4 h5
    refine Ev.up ?_
    simp only [horologeref05_Start.l0]
    exact Ev.neg (by omega) (rstart_l1 80 y n (by omega) (by omega) (by omega) (by omega) (by omega))
  | succ m ih =>
    intro y n h1 h2 h3 h4 h5
    by_cases h : y < 1970
    · refine Ev.up ?_
      simp only [horologeref05_Start.l0]
      refine Ev.pos h ?_
      rw [wr (n := y + 400) (by omega), wr (n := n - 146097) (by omega)]
      have := ih (y + 400) (n - 146097) (by omega) (by omega) (by omega) (by omega) (by omega)
      rw [S_400] at this
      rw [show n + S y = n - 146097 + (S y + 146097) by omega]
      exact this
    · exact ih y n (by omega) h2 (by omega) (by omega) h5
theorem rstart_is (y : Int) (h1 : -30000 ≤ y) (h2 : y ≤ 30000) : Ev (fun k => horologeref05_Start.f k y) (S y) := by
  have := rstart_l0 80 y 0 (by omega) h2 (by omega) (by omega) (by omega)
  rw [Int.zero_add] at this
  exact this
theorem weekday_is (n : Int) : day_Weekday.f n = some ((n + 3) % 7 + 1) := by
  unfold day_Weekday.f
  rw [tmod_is n 7]
  split
  · rw [wr (n := -(-n % 7) + 3) (by omega), tmod_is (-(-n % 7) + 3) 7]
    split
    · rw [wr (n := -(-(-(-n % 7) + 3) % 7) + 7) (by omega), tmod_is, if_neg (by omega), wr (by omega)]; congr 1; omega
    · rw [wr (n := (-(-n % 7) + 3) % 7 + 7) (by omega), tmod_is, if_neg (by omega), wr (by omega)]; congr 1; omega
  · rw [wr (n := n % 7 + 3) (by omega), tmod_is (n % 7 + 3) 7, if_neg (by omega), wr (n := (n % 7 + 3) % 7 + 7) (by omega), tmod_is, if_neg (by omega), wr (by omega)]; congr 1; omega
theorem first_is : day_First.f = some (-4371587) := by kernel_rfl
theorem last_is : day_Last.f = some 2932896 := by kernel_rfl
/-- The date of a number. -/
def dateV (n : Int) : Int × Int × Int :=
  let e := (n + 719468) / 146097
  let f := (n + 719468) % 146097
  let r := f - (365 * ofD f + ofD f / 4 - ofD f / 100)
  let m := (5 * r + 2) / 153
  (if m + 3 > 12 then ofD f + e * 400 + 1 else ofD f + e * 400, if m + 3 > 12 then m - 9 else m + 3, r - (153 * m + 2) / 5 + 1)
theorem dateV_ok (n : Int) : ok (dateV n).1 (dateV n).2.1 (dateV n).2.2 ∧ nm (dateV n).1 (dateV n).2.1 (dateV n).2.2 = n := by
  unfold dateV
  simp only
  obtain ⟨f, hf⟩ : ∃ f, f = (n + 719468) % 146097 := ⟨_, rfl⟩
  obtain ⟨e, he⟩ : ∃ e, e = (n + 719468) / 146097 := ⟨_, rfl⟩
  rw [← hf, ← he]
  have o := ofD_is f (by omega) (by omega)
  generalize ofD f = y at *
  obtain ⟨o1, o2, o3, o4⟩ := o
  obtain ⟨r, hr⟩ : ∃ r, r = f - (365 * y + y / 4 - y / 100) := ⟨_, rfl⟩
  rw [← hr]
  have l := lp_01 (y + 1)
  have r0 : 0 ≤ r ∧ r ≤ 365 := by omega
  obtain ⟨m, hm⟩ : ∃ m, m = (5 * r + 2) / 153 := ⟨_, rfl⟩
  rw [← hm]
  have m0 : 0 ≤ m ∧ m ≤ 11 := by omega
  have l4 : lp (y + e * 400 + 1) = lp (y + 1) := by
    unfold lp; congr 1; exact propext ⟨fun h => by omega, fun h => by omega⟩
  by_cases hc : m + 3 > 12
  · rw [if_pos hc, if_pos hc]
    have d := nmM_early (y + e * 400 + 1) (m - 9) (r - (153 * m + 2) / 5 + 1) (by omega) (by omega)
    refine ⟨⟨by omega, by omega, by omega, ?_⟩, ?_⟩
    · unfold ml
      rw [l4]
      have : m = 10 ∨ m = 11 := by omega
      rcases this with h | h <;> subst h
      · rw [if_neg (by decide)]; omega
      · rw [if_pos (by decide)]; omega
    · rw [← d]
      unfold nmM
      rw [show y + e * 400 + 1 - 1 = y + e * 400 by omega, show m - 9 + 12 - 3 = m by omega]
      have q1 : (y + e * 400) / 400 = e := by omega
      have q2 : (y + e * 400) % 400 = y := by omega
      rw [q1, q2]
      omega
  · rw [if_neg hc, if_neg hc]
    have d := nmM_late (y + e * 400) (m + 3) (r - (153 * m + 2) / 5 + 1) (by omega) (by omega)
    refine ⟨⟨by omega, by omega, by omega, ?_⟩, ?_⟩
    · unfold ml
      rw [if_neg (by omega)]
      have : m = 0 ∨ m = 1 ∨ m = 2 ∨ m = 3 ∨ m = 4 ∨ m = 5 ∨ m = 6 ∨ m = 7 ∨ m = 8 ∨ m = 9 := by omega
      rcases this with h | h | h | h | h | h | h | h | h | h <;> (subst h; omega)
    · rw [← d]
      unfold nmM
      rw [show m + 3 - 3 = m by omega]
      have q1 : (y + e * 400) / 400 = e := by omega
      have q2 : (y + e * 400) % 400 = y := by omega
      rw [q1, q2]
      omega
theorem date_is (n : Int) : Ev (fun k => day_Date.f k n) (if -4371587 ≤ n ∧ n ≤ 2932896 then ((dateV n).1, (dateV n).2.1, (dateV n).2.2, none) else (0, 0, 0, some 13)) := by
  unfold day_Date.f
  refine Ev.bindc first_is ?_
  have bad : ¬ (-4371587 ≤ n ∧ n ≤ 2932896) → Ev (fun k => day_Date.j0 k n true) (if -4371587 ≤ n ∧ n ≤ 2932896 then ((dateV n).1, (dateV n).2.1, (dateV n).2.2, none) else (0, 0, 0, some 13)) := by
    intro h
    rw [if_neg h]
    refine Ev.up ?_
    simp only [day_Date.j0, if_true]
    exact Ev.now _
  refine Ev.ite (fun h => bad (by omega)) (fun h => Ev.bindc last_is ?_)
  by_cases h2 : n > 2932896
  · rw [decide_eq_true h2]; exact bad (by omega)
  · rw [decide_eq_false h2, if_pos (by omega)]
    refine Ev.up ?_
    simp only [day_Date.j0, Bool.false_eq_true, if_false]
    have w0 : wrap64 (n + 719468) = n + 719468 := wr (by omega)
    rw [w0, floor_is _ _ (Or.inr rfl) (by omega)]
    simp only [Option.bind_some]
    unfold dateV
    simp only
    have ef : n + 719468 - (n + 719468) / 146097 * 146097 = (n + 719468) % 146097 := by omega
    have eb : -30 ≤ (n + 719468) / 146097 ∧ (n + 719468) / 146097 ≤ 30 := by omega
    have w1 : wrap64 ((n + 719468) / 146097 * 146097) = (n + 719468) / 146097 * 146097 := wr (by omega)
    have w2 : wrap64 ((n + 719468) % 146097) = (n + 719468) % 146097 := wr (by omega)
    have w3 : wrap64 ((n + 719468) / 146097 * 400) = (n + 719468) / 146097 * 400 := wr (by omega)
    simp only [w1, ef, w2, w3]
    have f0 : 0 ≤ (n + 719468) % 146097 ∧ (n + 719468) % 146097 < 146097 := by omega
    generalize (n + 719468) % 146097 = f at *
    generalize (n + 719468) / 146097 = e at *
    clear w0 w1 w2 ef bad
    have t1 : wrap64 (Int.tdiv f 1460) = f / 1460 := by rw [tdiv_is, if_neg (by omega), wr (by omega)]
    have t2 : wrap64 (Int.tdiv f 36524) = f / 36524 := by rw [tdiv_is, if_neg (by omega), wr (by omega)]
    have t3 : wrap64 (Int.tdiv f 146096) = f / 146096 := by rw [tdiv_is, if_neg (by omega), wr (by omega)]
    have t4 : wrap64 (wrap64 (wrap64 (f - f / 1460) + f / 36524) - f / 146096) = f - f / 1460 + f / 36524 - f / 146096 := by
      rw [wr (n := f - f / 1460) (by omega), wr (n := f - f / 1460 + f / 36524) (by omega), wr (by omega)]
    have t5 : Int.tdiv (f - f / 1460 + f / 36524 - f / 146096) 365 = ofD f := by rw [tdiv_is, if_neg (by omega)]; rfl
    have o := ofD_is f f0.1 f0.2
    have l := lp_01 (ofD f + 1)
    have t6 : wrap64 (ofD f) = ofD f := wr (by omega)
    simp only [t1, t2, t3, t4, t5, t6]
    clear t1 t2 t3 t4 t5 t6
    generalize ofD f = y at *
    have t7 : wrap64 (Int.tdiv y 4) = y / 4 := by rw [tdiv_is, if_neg (by omega), wr (by omega)]
    have t8 : wrap64 (Int.tdiv y 100) = y / 100 := by rw [tdiv_is, if_neg (by omega), wr (by omega)]
    have t9 : wrap64 (f - wrap64 (wrap64 (wrap64 (365 * y) + y / 4) - y / 100)) = f - (365 * y + y / 4 - y / 100) := by
      rw [wr (n := 365 * y) (by omega), wr (n := 365 * y + y / 4) (by omega), wr (n := 365 * y + y / 4 - y / 100) (by omega), wr (by omega)]
    have t10 : wrap64 (y + e * 400) = y + e * 400 := wr (by omega)
    simp only [t7, t8, t9, t10]
    clear t7 t8 t9 t10
    have r0 : 0 ≤ f - (365 * y + y / 4 - y / 100) ∧ f - (365 * y + y / 4 - y / 100) ≤ 365 := by omega
    generalize f - (365 * y + y / 4 - y / 100) = r at *
    have t11 : wrap64 (Int.tdiv (wrap64 (wrap64 (5 * r) + 2)) 153) = (5 * r + 2) / 153 := by
      rw [wr (n := 5 * r) (by omega), wr (n := 5 * r + 2) (by omega), tdiv_is, if_neg (by omega), wr (by omega)]
    simp only [t11]
    clear t11
    have m0 : 0 ≤ (5 * r + 2) / 153 ∧ (5 * r + 2) / 153 ≤ 11 := by omega
    generalize (5 * r + 2) / 153 = m at *
    have t12 : wrap64 (Int.tdiv (wrap64 (wrap64 (153 * m) + 2)) 5) = (153 * m + 2) / 5 := by
      rw [wr (n := 153 * m) (by omega), wr (n := 153 * m + 2) (by omega), tdiv_is, if_neg (by omega), wr (by omega)]
    have t13 : wrap64 (wrap64 (r - (153 * m + 2) / 5) + 1) = r - (153 * m + 2) / 5 + 1 := by
      rw [wr (n := r - (153 * m + 2) / 5) (by omega), wr (by omega)]
    have t14 : wrap64 (m + 3) = m + 3 := wr (by omega)
    have t15 : wrap64 (m + 3 - 12) = m - 9 := by rw [wr (by omega)]; omega
    have t16 : wrap64 (y + e * 400 + 1) = y + e * 400 + 1 := wr (by omega)
    simp only [t12, t13, t14, t15, t16]
    refine Ev.ite (fun h => ?_) (fun h => ?_)
    · rw [if_pos h, if_pos h]; exact Ev.now _
    · rw [if_neg h, if_neg h]; exact Ev.now _
theorem rfirst_is : Ev (fun k => horologeref05_First.f k) (-4371587) :=
  Ev.bind (rstart_is (-9999) (by decide) (by decide)) (Ev.cast (Ev.now _) (by decide))
theorem rlast_is : Ev (fun k => horologeref05_Last.f k) 2932896 :=
  Ev.bind (rstart_is 10000 (by decide) (by decide)) (Ev.cast (Ev.now _) (by rw [show S 10000 = 2932897 by decide]; exact wr (by omega)))
theorem rweekday_is (n : Int) : horologeref05_Weekday.f n = some ((n + 3) % 7 + 1) := by
  have l : (([4, 5, 6, 7, 1, 2, 3] : List Int).length : Int) = 7 := rfl
  have h7 : ∀ j : Int, 0 ≤ j → j < 7 → rd [4, 5, 6, 7, 1, 2, 3] j = (j + 3) % 7 + 1 := by
    intro j a b
    have : j = 0 ∨ j = 1 ∨ j = 2 ∨ j = 3 ∨ j = 4 ∨ j = 5 ∨ j = 6 := by omega
    rcases this with h | h | h | h | h | h | h <;> subst h <;> decide
  unfold horologeref05_Weekday.f
  rw [tmod_is]
  simp only [Option.bind_some, l]
  by_cases hn : n < 0
  · simp only [if_pos hn]
    by_cases h0 : -(-n % 7) < 0
    · rw [if_pos h0, wr (by omega), if_pos (by omega), if_pos (by omega), h7 _ (by omega) (by omega)]
      congr 1; omega
    · rw [if_neg h0, if_pos (by omega), if_pos (by omega), h7 _ (by omega) (by omega)]
      congr 1; omega
  · simp only [if_neg hn]
    rw [if_neg (by omega), if_pos (by omega), if_pos (by omega), h7 _ (by omega) (by omega)]
    congr 1; omega
theorem rdate_l3 (y n : Int) (j : Nat) : ∀ m : Int, 1 ≤ m → m + j = 12 → S y + cm y m ≤ n → n < S (y + 1) → Ev (fun k => horologeref05_Date.l3 k (n - S y - cm y m) y m) ((dateV n).1, (dateV n).2.1, (dateV n).2.2) := by
  have key : ∀ m : Int, 1 ≤ m → m ≤ 12 → S y + cm y m ≤ n → n < S y + cm y m + ml y m → Ev (fun k => horologeref05_Date.l3 k (n - S y - cm y m) y m) ((dateV n).1, (dateV n).2.1, (dateV n).2.2) := by
    intro m h1 h2 h3 h4
    have b := ml_bd y m
    refine Ev.up ?_
    simp only [horologeref05_Date.l3, rmonth_is y m h1 h2, Option.bind_some]
    refine Ev.neg (by omega) ?_
    rw [wr (by omega)]
    obtain ⟨d1, d2⟩ := dateV_ok n
    have := nm_inj d1 (y' := y) (m' := m) (d' := n - S y - cm y m + 1) ⟨h1, h2, by omega, by omega⟩ (by rw [d2]; unfold nm; omega)
    rw [this.1, this.2.1, this.2.2]
    exact Ev.now _
  induction j with
  | zero =>
    intro m h1 h2 h3 h4
    obtain rfl : m = 12 := by omega
    have := cm_last y
    rw [S_succ] at h4
    exact key 12 (by decide) (by decide) h3 (by omega)
  | succ j ih =>
    intro m h1 h2 h3 h4
    by_cases h : n < S y + cm y m + ml y m
    · exact key m h1 (by omega) h3 h
    · have c := cm_succ y m h1 (by omega)
      have b := ml_bd y m
      have cb := cm_bd y m h1 (by omega)
      have h4' := h4
      rw [S_succ] at h4'
      have l := lp_01 y
      refine Ev.up ?_
      simp only [horologeref05_Date.l3, rmonth_is y m h1 (by omega), Option.bind_some]
      refine Ev.pos (by omega) ?_
      rw [wr (n := m + 1) (by omega), wr (n := n - S y - cm y m - ml y m) (by omega)]
      have := ih (m + 1) (by omega) (by omega) (by omega) h4
      rw [c] at this
      rw [show n - S y - cm y m - ml y m = n - S y - (cm y m + ml y m) by omega]
      exact this
theorem rdate_l2 (n : Int) (j : Nat) : ∀ y : Int, -12000 ≤ y → y + j ≤ 11000 → S y ≤ n → n < S (y + j + 1) → Ev (fun k => horologeref05_Date.l2 k (n - S y) y) ((dateV n).1, (dateV n).2.1, (dateV n).2.2) := by
  have key : ∀ y : Int, S y ≤ n → n < S (y + 1) → Ev (fun k => horologeref05_Date.l2 k (n - S y) y) ((dateV n).1, (dateV n).2.1, (dateV n).2.2) := by
    intro y h1 h2
    have h2' := h2
    rw [S_succ] at h2'
    refine Ev.up ?_
    simp only [horologeref05_Date.l2, rdays_is, Option.bind_some]
    refine Ev.neg (by omega) ?_
    have := rdate_l3 y n 11 1 (by decide) (by decide) (by rw [cm_one]; omega) h2
    rw [cm_one, Int.sub_zero] at this
    exact this
  induction j with
  | zero =>
    intro y h1 h2 h3 h4
    rw [show y + ((0 : Nat) : Int) + 1 = y + 1 by omega] at h4
    exact key y h3 h4
  | succ j ih =>
    intro y h1 h2 h3 h4
    by_cases h : n < S (y + 1)
    · exact key y h3 h
    · have h' := h
      have b2 := S_mono (show y + ((j + 1 : Nat) : Int) + 1 ≤ 12000 by omega)
      have b3 := S_mono (show -12000 ≤ y by omega)
      have e2 : S (-12000) = -5102438 := by decide
      have e3 : S 12000 = 3663382 := by decide
      have l := lp_01 y
      rw [S_succ] at h'
      refine Ev.up ?_
      simp only [horologeref05_Date.l2, rdays_is, Option.bind_some]
      refine Ev.pos (by omega) ?_
      rw [wr (n := y + 1) (by omega), wr (n := n - S y - (365 + lp y)) (by omega)]
      have := ih (y + 1) (by omega) (by omega) (by omega) (by rw [show y + 1 + (j : Int) + 1 = y + ((j + 1 : Nat) : Int) + 1 by omega]; exact h4)
      rw [S_succ] at this
      rw [show n - S y - (365 + lp y) = n - (S y + 365 + lp y) by omega]
      exact this
theorem S_1600 (y j : Int) : S (1970 + 400 * j) = 146097 * j := by unfold S; omega
theorem rdate_is (n : Int) (h : -4371587 ≤ n ∧ n ≤ 2932896) : Ev (fun k => horologeref05_Date.f k n) ((dateV n).1, (dateV n).2.1, (dateV n).2.2) := by
  have fin : ∀ y : Int, -11000 ≤ y → y ≤ 10000 → 0 ≤ n - S y → n - S y < 146097 → Ev (fun k => horologeref05_Date.l2 k (n - S y) y) ((dateV n).1, (dateV n).2.1, (dateV n).2.2) := by
    intro y h1 h2 h3 h4
    refine rdate_l2 n 400 y (by omega) (by omega) (by omega) ?_
    have := S_400 y
    have := S_mono (show y + 400 ≤ y + ((400 : Nat) : Int) + 1 by omega)
    omega
  have up : ∀ (j : Nat) (i : Int), (j : Int) + i = 30 → 0 ≤ i → 0 ≤ n - 146097 * i → Ev (fun k => horologeref05_Date.l1 k (n - 146097 * i) (1970 + 400 * i)) ((dateV n).1, (dateV n).2.1, (dateV n).2.2) := by
    intro j
    induction j with
    | zero => intro i h1 h2 h3; omega
    | succ j ih =>
      intro i h1 h2 h3
      refine Ev.up ?_
      simp only [horologeref05_Date.l1]
      refine Ev.ite (fun q => ?_) (fun q => ?_)
      · rw [wr (by omega), wr (by omega)]
        have := ih (i + 1) (by omega) (by omega) (by omega)
        rw [show n - 146097 * i - 146097 = n - 146097 * (i + 1) by omega, show 1970 + 400 * i + 400 = 1970 + 400 * (i + 1) by omega]
        exact this
      · have s := S_1600 0 i
        have := fin (1970 + 400 * i) (by omega) (by omega) (by omega) (by omega)
        rw [s] at this
        exact this
  have dn : ∀ (j : Nat) (i : Int), i - (j : Int) = -31 → i ≤ 0 → (i = 0 ∨ n - 146097 * i < 146097) → Ev (fun k => horologeref05_Date.l0 k (n - 146097 * i) (1970 + 400 * i)) ((dateV n).1, (dateV n).2.1, (dateV n).2.2) := by
    intro j
    induction j with
    | zero => intro i h1 h2 h3; omega
    | succ j ih =>
      intro i h1 h2 h3
      refine Ev.up ?_
      simp only [horologeref05_Date.l0]
      refine Ev.ite (fun q => ?_) (fun q => ?_)
      · rw [wr (by omega), wr (by omega)]
        have := ih (i - 1) (by omega) (by omega) (by omega)
        rw [show n - 146097 * i + 146097 = n - 146097 * (i - 1) by omega, show 1970 + 400 * i - 400 = 1970 + 400 * (i - 1) by omega]
        exact this
      · by_cases hi : i = 0
        · subst hi
          exact up 30 0 (by decide) (by decide) (by omega)
        · refine Ev.up ?_
          simp only [horologeref05_Date.l1]
          refine Ev.neg (by omega) ?_
          have s := S_1600 0 i
          have := fin (1970 + 400 * i) (by omega) (by omega) (by omega) (by omega)
          rw [s] at this
          exact this
  have := dn 31 0 (by decide) (by decide) (Or.inl rfl)
  unfold horologeref05_Date.f
  simpa using this
theorem alive_is : Ev (fun k => horologelaw05_alive.f k) true := Ev.of (fun k => horologelaw05_alive.mono k) (k := 10) (by kernel_rfl)
end Go.Proofs.Ytmgeiennacgleaa.MDayNumbers
namespace Go.Proofs.Ytmgeiennacgleaa.Pure
open Go.RowKit Go.Proofs.Ytmgeiennacgleaa.MDayNumbers Go.Proofs.YtmgeiennacgleaaW.PrintWords Go.Proofs.YtmgeiennacgleaaW.PrintLast Go.Proofs.Ytmgeiennacgleaa.Base
set_option linter.unusedVariables false
set_option linter.unusedSimpArgs false
theorem DayNumbers : horologelaw05_DayNumbers.Pure := by
  intro n hn
  refine Ev.ok (g := fun k => horologelaw05_DayNumbers.f k n) ?_
  unfold horologelaw05_DayNumbers.f
  refine Ev.bind alive_is (Ev.pos rfl ?_)
  refine Ev.bind (date_is n) (Ev.bindc first_is (Ev.bind rfirst_is (Ev.pos rfl (Ev.bindc last_is (Ev.bind rlast_is (Ev.pos rfl (Ev.bindc (weekday_is n) (Ev.bindc (rweekday_is n) ?_))))))))
  rw [bne_self_eq_false]
  refine Ev.up ?_
  simp only [horologelaw05_DayNumbers.j0, Bool.false_eq_true, if_false]
  refine Ev.bind rfirst_is ?_
  by_cases h : -4371587 ≤ n ∧ n ≤ 2932896
  · simp only [if_pos h]
    refine Ev.neg (by omega) (Ev.bind rlast_is ?_)
    rw [decide_eq_false (by omega)]
    refine Ev.up ?_
    simp only [horologelaw05_DayNumbers.j1, Bool.false_eq_true, if_false]
    refine Ev.bind (rdate_is n h) ?_
    simp only [Option.isNone_none, if_true, BEq.rfl]
    exact Ev.now _
  · simp only [if_neg h]
    have bad : Ev (fun k => horologelaw05_DayNumbers.j1 k n 0 0 0 (some 13) true) true := by
      refine Ev.up ?_
      simp only [horologelaw05_DayNumbers.j1, if_true]
      exact Ev.bindc (show horologenum_Is.f (some 13) 13 = some true from rfl) (Ev.now _)
    refine Ev.ite (fun _ => bad) (fun h1 => Ev.bind rlast_is ?_)
    rw [decide_eq_true (show n > 2932896 by omega)]
    exact bad
end Go.Proofs.Ytmgeiennacgleaa.Pure
