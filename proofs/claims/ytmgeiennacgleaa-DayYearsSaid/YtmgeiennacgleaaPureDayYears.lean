/- DayYears: the days of any year by their places in it, and where years begin, are the document's. For every input of Go's kinds; no further condition. -/
import Derived.Test.YtmgeiennacgleaaMDayYearsx
import Derived.Test.YtmgeiennacgleaaCalBase
namespace Go.Proofs.Ytmgeiennacgleaa.MDayYears
open Go.RowKit Go.Proofs.YtmgeiennacgleaaW.PrintWords Go.Proofs.YtmgeiennacgleaaW.PrintLast Go.Proofs.YtmgeiennacgleaaW.PrintMore Go.Proofs.Ytmgeiennacgleaa.Base
set_option linter.unusedVariables false
set_option linter.unusedSimpArgs false

theorem num_is (e : Option Int) : horologenum_Num.f e = some (match e with | none => 0 | some c => if c = 0 then -1 else c) := by
  unfold horologenum_Num.f
  cases e <;> simp
  split <;> rfl
theorem leap_is (y : Int) : day_Leap.f y = some (decide (lp y = 1)) := by
  have t4 : Int.tmod y 4 = 0 ↔ y % 4 = 0 := by rw [tmod_is]; split <;> omega
  have t100 : Int.tmod y 100 = 0 ↔ y % 100 = 0 := by rw [tmod_is]; split <;> omega
  have t400 : Int.tmod y 400 = 0 ↔ y % 400 = 0 := by rw [tmod_is]; split <;> omega
  have b400 : (Int.tmod y 400 == 0) = decide (y % 400 = 0) := by rw [← decide_eq_decide.mpr t400]; rfl
  unfold day_Leap.f lp
  simp only [t4, t100, b400]
  by_cases p4 : y % 4 = 0 <;> by_cases p100 : y % 100 = 0 <;> by_cases p400 : y % 400 = 0 <;> simp [p4, p100, p400]
theorem right_is (y : Int) : day_right.f y = some (decide (-9999 ≤ y ∧ y ≤ 9999)) := by
  unfold day_right.f
  split
  · congr 1; simp; omega
  · congr 1; simp; omega
/-- A year's and a month's error's number: 0, or the year is none (13), or the month is none (1). -/
def monthV (y m : Int) : Int × Option Int := if -9999 ≤ y ∧ y ≤ 9999 then (if 1 ≤ m ∧ m ≤ 12 then (ml y m, none) else (0, some 1)) else (0, some 13)
theorem month_j1 (m : Int) (hm : 1 ≤ m ∧ m ≤ 12) (b : Bool) : Ev (fun k => day_Month.j1 k m b) (if b = true then (29, none) else if m = 2 then (28, none) else (30 + (m + m / 8) % 2, none)) := by
  refine Ev.up ?_
  simp only [day_Month.j1]
  refine Ev.ite (fun h => ?_) (fun h => ?_)
  · rw [if_pos h]; exact Ev.now _
  · rw [if_neg h]
    refine Ev.ite (fun h2 => ?_) (fun h2 => ?_)
    · rw [if_pos h2]; exact Ev.now _
    · rw [if_neg h2]
      refine Ev.cast (Ev.now _) ?_
      rw [tdiv_is m 8, if_neg (by omega), wr (n := m / 8) (by omega), wr (n := m + m / 8) (by omega), tmod_is, if_neg (by omega), wr (by omega)]
theorem month_is (y m : Int) : Ev (fun k => day_Month.f k y m) (monthV y m) := by
  unfold day_Month.f monthV
  refine Ev.bindc (right_is y) ?_
  by_cases hy : -9999 ≤ y ∧ y ≤ 9999
  · rw [if_pos hy]
    refine Ev.pos (decide_eq_true hy) ?_
    have bad : ¬ (1 ≤ m ∧ m ≤ 12) → Ev (fun k => day_Month.j0 k y m true) (if 1 ≤ m ∧ m ≤ 12 then (ml y m, none) else (0, some 1)) := by
      intro h
      rw [if_neg h]
      refine Ev.up ?_
      simp only [day_Month.j0, if_true]
      exact Ev.now _
    refine Ev.ite (fun h => bad (by omega)) (fun h => ?_)
    by_cases h2 : m > 12
    · rw [decide_eq_true h2]; exact bad (by omega)
    · rw [decide_eq_false h2, if_pos (by omega)]
      refine Ev.up ?_
      simp only [day_Month.j0, Bool.false_eq_true, if_false]
      have l := lp_01 y
      refine Ev.ite (fun h3 => ?_) (fun h3 => ?_)
      · refine Ev.bindc (leap_is y) (Ev.cast (month_j1 m (by omega) _) ?_)
        unfold ml
        by_cases q : lp y = 1
        · rw [if_pos (decide_eq_true q), if_pos h3, q]; rfl
        · rw [if_neg (by rw [decide_eq_false q]; decide), if_pos h3, if_pos h3, show lp y = 0 by omega]; rfl
      · refine Ev.cast (month_j1 m (by omega) _) ?_
        unfold ml
        rw [if_neg (by decide), if_neg h3, if_neg h3]
  · rw [if_neg hy]
    exact Ev.neg (by rw [decide_eq_false hy]; decide) (Ev.now _)
instance (y m d : Int) : Decidable (ok y m d) := inferInstanceAs (Decidable (_ ∧ _ ∧ _ ∧ _))
def badD (y m d : Int) : Option Int := if -9999 ≤ y ∧ y ≤ 9999 then (if ok y m d then none else some 1) else some 13
theorem check_is (y m d : Int) : Ev (fun k => day_check.f k y m d) (badD y m d) := by
  unfold day_check.f badD
  refine Ev.bind (month_is y m) ?_
  unfold monthV
  by_cases hy : -9999 ≤ y ∧ y ≤ 9999
  · simp only [if_pos hy]
    by_cases hm : 1 ≤ m ∧ m ≤ 12
    · simp only [if_pos hm, Option.isNone_none, if_true]
      refine Ev.ite (fun h => ?_) (fun h => Ev.ite (fun h2 => ?_) (fun h2 => ?_))
      · rw [if_neg (show ¬ ok y m d from fun q => by unfold ok at q; omega)]; exact Ev.now _
      · rw [if_neg (show ¬ ok y m d from fun q => by unfold ok at q; omega)]; exact Ev.now _
      · rw [if_pos (show ok y m d from ⟨by omega, by omega, by omega, by omega⟩)]; exact Ev.now _
    · simp only [if_neg hm]
      rw [if_neg (show ¬ ok y m d from fun q => by unfold ok at q; omega)]; exact Ev.now _
  · simp only [if_neg hy]; exact Ev.now _
theorem floor_is (a b : Int) (hb : b = 400 ∨ b = 146097) (ha : -100000000 ≤ a ∧ a ≤ 100000000) : day_floor.f a b = some (a / b) := by
  unfold day_floor.f
  rw [tmod_is, tdiv_is]
  rcases hb with rfl | rfl
  · rw [if_neg (by decide)]
    by_cases h : a < 0
    · simp only [if_pos h]
      rw [wr (n := -(-a / 400)) (by omega)]
      split
      · rw [wr (by omega)]; congr 1; omega
      · congr 1; omega
    · simp only [if_neg h]
      rw [if_neg (by omega), wr (by omega)]
  · rw [if_neg (by decide)]
    by_cases h : a < 0
    · simp only [if_pos h]
      rw [wr (n := -(-a / 146097)) (by omega)]
      split
      · rw [wr (by omega)]; congr 1; omega
      · congr 1; omega
    · simp only [if_neg h]
      rw [if_neg (by omega), wr (by omega)]
theorem number_is (y m d : Int) (hy : -30000 ≤ y ∧ y ≤ 30000) (h1 : 1 ≤ m) (h2 : m ≤ 12) (hd : -1000 ≤ d ∧ d ≤ 1000) : day_number.f y m d = some (nm y m d) := by
  have core : ∀ y m : Int, -30001 ≤ y → y ≤ 30001 → 3 ≤ m → m ≤ 14 →
      wrap64 (wrap64 (wrap64 (wrap64 (wrap64 (wrap64 (y / 400 * 146097) + wrap64 (wrap64 (y - wrap64 (y / 400 * 400)) * 365)) + wrap64 (Int.tdiv (wrap64 (y - wrap64 (y / 400 * 400))) 4)) - wrap64 (Int.tdiv (wrap64 (y - wrap64 (y / 400 * 400))) 100)) + wrap64 (wrap64 (wrap64 (Int.tdiv (wrap64 (wrap64 (153 * wrap64 (m - 3)) + 2)) 5) + d) - 1)) - 719468) = nmM y m d := by
    intro y m a1 a2 a3 a4
    have e : y - y / 400 * 400 = y % 400 := by omega
    rw [wr (n := y / 400 * 400) (by omega), e, wr (n := y % 400) (by omega), tdiv_is, tdiv_is, if_neg (by omega), if_neg (by omega)]
    rw [wr (n := m - 3) (by omega), wr (n := 153 * (m - 3)) (by omega), wr (n := 153 * (m - 3) + 2) (by omega), tdiv_is, if_neg (by omega)]
    rw [wr (n := y / 400 * 146097) (by omega), wr (n := y % 400 * 365) (by omega), wr (n := y % 400 / 4) (by omega), wr (n := y % 400 / 100) (by omega), wr (n := (153 * (m - 3) + 2) / 5) (by omega)]
    rw [wr (n := y / 400 * 146097 + y % 400 * 365) (by omega), wr (n := y / 400 * 146097 + y % 400 * 365 + y % 400 / 4) (by omega), wr (n := y / 400 * 146097 + y % 400 * 365 + y % 400 / 4 - y % 400 / 100) (by omega)]
    rw [wr (n := (153 * (m - 3) + 2) / 5 + d) (by omega), wr (n := (153 * (m - 3) + 2) / 5 + d - 1) (by omega), wr (n := y / 400 * 146097 + y % 400 * 365 + y % 400 / 4 - y % 400 / 100 + ((153 * (m - 3) + 2) / 5 + d - 1)) (by omega), wr (by omega)]
    unfold nmM; omega
  unfold day_number.f
  split
  · rw [wr (n := y - 1) (by omega), floor_is _ _ (Or.inl rfl) (by omega), wr (n := m + 12) (by omega)]
    simp only [Option.bind_some]
    rw [core (y - 1) (m + 12) (by omega) (by omega) (by omega) (by omega), nmM_early y m d h1 (by omega)]
  · rw [floor_is _ _ (Or.inl rfl) (by omega)]
    simp only [Option.bind_some]
    rw [core y m (by omega) (by omega) (by omega) (by omega), nmM_late y m d (by omega) h2]
theorem of_is (y m d : Int) : Ev (fun k => day_Of.f k y m d) (if badD y m d = none then (nm y m d, none) else (0, badD y m d)) := by
  unfold day_Of.f
  refine Ev.bind (check_is y m d) ?_
  by_cases hb : badD y m d = none
  · have hb' := hb
    unfold badD at hb'
    split at hb'
    · split at hb'
      · rename_i hy ho
        obtain ⟨h1, h2, h3, h4⟩ := ho
        have := ml_bd y m
        rw [hb, if_pos rfl]
        refine Ev.pos rfl (Ev.bindc (number_is y m d (by omega) h1 h2 (by omega)) (Ev.now _))
      · cases hb'
    · cases hb'
  · obtain ⟨c, hc⟩ : ∃ c, badD y m d = some c := by
      cases h : badD y m d with
      | none => exact absurd h hb
      | some c => exact ⟨c, rfl⟩
    rw [hc, if_neg (show ¬ (some c = (none : Option Int)) from fun h => by cases h)]
    exact Ev.neg (by simp) (Ev.now _)
theorem nm_11 (y : Int) : nm y 1 1 = S y := by unfold nm; rw [cm_one]; omega
theorem rleap_is (y : Int) : horologeref05_Leap.f y = some (decide (lp y = 1)) := by
  have t4 : Int.tmod y 4 = 0 ↔ y % 4 = 0 := by rw [tmod_is]; split <;> omega
  have t100 : Int.tmod y 100 = 0 ↔ y % 100 = 0 := by rw [tmod_is]; split <;> omega
  have t400 : Int.tmod y 400 = 0 ↔ y % 400 = 0 := by rw [tmod_is]; split <;> omega
  have b100 : (Int.tmod y 100 != 0) = !decide (y % 100 = 0) := by rw [← decide_eq_decide.mpr t100]; rfl
  unfold horologeref05_Leap.f lp
  simp only [t4, t400, b100]
  by_cases p400 : y % 400 = 0
  · have p4 : y % 4 = 0 := by omega
    simp [p4, p400]
  · by_cases p4 : y % 4 = 0 <;> by_cases p100 : y % 100 = 0 <;> simp [p4, p100, p400]
theorem rdays_is (y : Int) : horologeref05_Days.f y = some (365 + lp y) := by
  unfold horologeref05_Days.f
  have l := lp_01 y
  rw [rleap_is]
  simp only [Option.bind_some]
  by_cases h : lp y = 1
  · rw [if_pos (decide_eq_true h), h]; rfl
  · rw [if_neg (by rw [decide_eq_false h]; decide), show lp y = 0 by omega]; rfl
theorem rstart_l2 (y n : Int) (hn : -100000000 ≤ n ∧ n ≤ 100000000) (m : Nat) : ∀ x : Int, 1970 ≤ x → x + m = y → y ≤ 2400 → Ev (fun k => horologeref05_Start.l2 k y (n + S x) x) (n + S y) := by
  induction m with
  | zero =>
    intro x h1 h2 h3
    refine Ev.up ?_
    simp only [horologeref05_Start.l2]
    rw [show x = y by omega]
    exact Ev.neg (by omega) (Ev.now _)
  | succ m ih =>
    intro x h1 h2 h3
    have l := lp_01 x
    have s := S_succ x
    have b1 := S_mono h1
    have b2 := S_mono (show x ≤ 2400 by omega)
    have e1 : S 2400 = 157054 := by decide
    have e0 := S_1970
    refine Ev.up ?_
    simp only [horologeref05_Start.l2, rdays_is, Option.bind_some]
    rw [wr (n := x + 1) (by omega), wr (n := n + S x + (365 + lp x)) (by omega)]
    have := ih (x + 1) (by omega) (by omega) h3
    rw [s] at this
    refine Ev.pos (by omega) ?_
    rw [show n + S x + (365 + lp x) = n + (S x + 365 + lp x) by omega]
    exact this
theorem rstart_l1 (m : Nat) : ∀ y n : Int, 1970 ≤ y → y < 2370 + 400 * m → m ≤ 80 → -50000000 ≤ n → n ≤ 50000000 - 146097 * m → Ev (fun k => horologeref05_Start.l1 k y n) (n + S y) := by
  induction m with
  | zero =>
    intro y n h1 h2 h3 h4 h5
    refine Ev.up ?_
    simp only [horologeref05_Start.l1]
    refine Ev.neg (by omega) ?_
    have := rstart_l2 y n (by omega) (y - 1970).toNat 1970 (by decide) (by omega) (by omega)
    rw [S_1970, Int.add_zero] at this
    exact this
  | succ m ih =>
    intro y n h1 h2 h3 h4 h5
    by_cases h : y ≥ 2370
    · refine Ev.up ?_
      simp only [horologeref05_Start.l1]
      refine Ev.pos h ?_
      rw [wr (n := y - 400) (by omega), wr (n := n + 146097) (by omega)]
      have := ih (y - 400) (n + 146097) (by omega) (by omega) (by omega) (by omega) (by omega)
      have e := S_400 (y - 400)
      rw [show y - 400 + 400 = y by omega] at e
      rw [show n + S y = n + 146097 + S (y - 400) by omega]
      exact this
    · exact ih y n h1 (by omega) (by omega) h4 (by omega)
theorem rstart_l0 (m : Nat) : ∀ y n : Int, 1970 - 400 * m ≤ y → y ≤ 30000 → m ≤ 80 → -50000000 + 146097 * m ≤ n → n ≤ 30000000 → Ev (fun k => horologeref05_Start.l0 k y n) (n + S y) := by
  induction m with
  | zero =>
    intro y n h1 h2 h3 h4 h5
    refine Ev.up ?_
    simp only [horologeref05_Start.l0]
    exact Ev.neg (by omega) (rstart_l1 80 y n (by omega) (by omega) (by omega) (by omega) (by omega))
  | succ m ih =>
    intro y n h1 h2 h3 h4 h5
    by_cases h : y < 1970
    · refine Ev.up ?_
      simp only [horologeref05_Start.l0]
      refine Ev.pos h ?_
      rw [wr (n := y + 400) (by omega), wr (n := n - 146097) (by omega)]
      have := ih (y + 400) (n - 146097) (by omega) (by omega) (by omega) (by omega) (by omega)
      rw [S_400] at this
      rw [show n + S y = n - 146097 + (S y + 146097) by omega]
      exact this
    · exact ih y n (by omega) h2 (by omega) (by omega) h5
theorem rstart_is (y : Int) (h1 : -30000 ≤ y) (h2 : y ≤ 30000) : Ev (fun k => horologeref05_Start.f k y) (S y) := by
  have := rstart_l0 80 y 0 (by omega) h2 (by omega) (by omega) (by omega)
  rw [Int.zero_add] at this
  exact this
theorem days_is (y : Int) : day_Days.f y = some (if -9999 ≤ y ∧ y ≤ 9999 then (365 + lp y, none) else (0, some 13)) := by
  unfold day_Days.f
  have l := lp_01 y
  rw [right_is, leap_is]
  simp only [Option.bind_some]
  by_cases hy : -9999 ≤ y ∧ y ≤ 9999
  · rw [if_pos (decide_eq_true hy), if_pos hy]
    by_cases q : lp y = 1
    · rw [if_pos (decide_eq_true q), q]; rfl
    · rw [if_neg (by rw [decide_eq_false q]; decide), show lp y = 0 by omega]; rfl
  · rw [if_neg (by rw [decide_eq_false hy]; decide), if_neg hy]
theorem start_is (y : Int) : day_Start.f y = some (if -20000 ≤ y ∧ y ≤ 20000 then (S y, none) else (0, some 13)) := by
  unfold day_Start.f
  split
  · rw [if_neg (by omega)]
  · split
    · rw [if_neg (by omega)]
    · rw [if_pos (by omega), number_is y 1 1 (by omega) (by decide) (by decide) (by omega), nm_11]
      rfl
theorem ryear_is (y : Int) : horologeref05_Year.f y = some (decide (-9999 ≤ y ∧ y ≤ 9999)) := right_is y
theorem from_is (y j : Int) (hj : I64 j) : day_FromYearDay.f y j = some (if -9999 ≤ y ∧ y ≤ 9999 then (if 1 ≤ j ∧ j ≤ 365 + lp y then (S y + j - 1, none) else (0, some 1)) else (0, some 13)) := by
  unfold day_FromYearDay.f
  unfold I64 at hj
  have l := lp_01 y
  rw [days_is]
  simp only [Option.bind_some]
  by_cases hy : -9999 ≤ y ∧ y ≤ 9999
  · have b1 := S_mono (show y ≤ 10000 by omega)
    have b2 := S_mono (show -10000 ≤ y by omega)
    have e1 : S 10000 = 2932897 := by decide
    have e2 : S (-10000) = -4371953 := by decide
    simp only [if_pos hy, Option.isNone_none, if_true]
    split
    · rw [if_neg (by omega)]
    · split
      · rw [if_neg (by omega)]
      · rw [if_pos (by omega), number_is y 1 1 (by omega) (by decide) (by decide) (by omega), nm_11]
        simp only [Option.bind_some]
        rw [wr (n := j - 1) (by omega), wr (by omega)]
        congr 2; omega
  · simp only [if_neg hy]
    rfl
theorem alive_is : Ev (fun k => horologelaw05_alive.f k) true := Ev.of (fun k => horologelaw05_alive.mono k) (k := 10) (by kernel_rfl)
end Go.Proofs.Ytmgeiennacgleaa.MDayYears
namespace Go.Proofs.Ytmgeiennacgleaa.Pure
open Go.RowKit Go.Proofs.Ytmgeiennacgleaa.MDayYears Go.Proofs.YtmgeiennacgleaaW.PrintWords Go.Proofs.YtmgeiennacgleaaW.PrintLast Go.Proofs.Ytmgeiennacgleaa.Base
set_option linter.unusedVariables false
set_option linter.unusedSimpArgs false
theorem DayYears : horologelaw05_DayYears.Pure := by
  intro y j hy hj
  replace hj := i64_of hj
  have hj' := hj
  unfold I64 at hj'
  have l := lp_01 y
  refine Ev.ok (g := fun k => horologelaw05_DayYears.f k y j) ?_
  unfold horologelaw05_DayYears.f
  refine Ev.bind alive_is (Ev.pos rfl (Ev.bindc (from_is y j hj) (Ev.bindc (start_is y) ?_)))
  have h1 : Ev (fun k => horologelaw05_DayYears.j1 k y j (if -9999 ≤ y ∧ y ≤ 9999 then (if 1 ≤ j ∧ j ≤ 365 + lp y then (S y + j - 1, none) else (0, some 1)) else (0, some 13) : Int × Option Int).1 (if -9999 ≤ y ∧ y ≤ 9999 then (if 1 ≤ j ∧ j ≤ 365 + lp y then (S y + j - 1, none) else (0, some 1)) else (0, some 13) : Int × Option Int).2) true := by
    refine Ev.up ?_
    simp only [horologelaw05_DayYears.j1]
    refine Ev.bindc (ryear_is y) ?_
    by_cases hyy : -9999 ≤ y ∧ y ≤ 9999
    · have b1 := S_mono (show y ≤ 10000 by omega)
      have b2 := S_mono (show -10000 ≤ y by omega)
      have e1 : S 10000 = 2932897 := by decide
      have e2 : S (-10000) = -4371953 := by decide
      simp only [if_pos hyy]
      refine Ev.pos (decide_eq_true hyy) ?_
      have bad : ¬ (1 ≤ j ∧ j ≤ 365 + lp y) → Ev (fun k => horologelaw05_DayYears.j2 k y j (if 1 ≤ j ∧ j ≤ 365 + lp y then (S y + j - 1, none) else (0, some 1) : Int × Option Int).1 (if 1 ≤ j ∧ j ≤ 365 + lp y then (S y + j - 1, none) else (0, some 1) : Int × Option Int).2 true) true := by
        intro h
        refine Ev.up ?_
        simp only [horologelaw05_DayYears.j2, if_neg h, if_true]
        exact Ev.bindc (show horologenum_Is.f (some 1) 1 = some true from rfl) (Ev.now _)
      refine Ev.ite (fun h => bad (by omega)) (fun h => Ev.bindc (rdays_is y) ?_)
      by_cases h2 : j > 365 + lp y
      · rw [decide_eq_true h2]; exact bad (by omega)
      · rw [decide_eq_false h2]
        refine Ev.up ?_
        simp only [horologelaw05_DayYears.j2, if_pos (show 1 ≤ j ∧ j ≤ 365 + lp y by omega), Bool.false_eq_true, if_false, Option.isNone_none, if_true]
        refine Ev.bind (rstart_is y (by omega) (by omega)) (Ev.cast (Ev.now _) ?_)
        rw [wr (n := S y + j) (by omega), wr (by omega)]
        exact beq_self_eq_true _
    · simp only [if_neg hyy]
      exact Ev.neg (by rw [decide_eq_false hyy]; decide) (Ev.pos trivial (Ev.bindc (show horologenum_Is.f (some 13) 13 = some true from rfl) (Ev.now _)))
  generalize (if -9999 ≤ y ∧ y ≤ 9999 then (if 1 ≤ j ∧ j ≤ 365 + lp y then (S y + j - 1, none) else (0, some 1)) else (0, some 13) : Int × Option Int) = p at *
  have bad : ¬ (-20000 ≤ y ∧ y ≤ 20000) → Ev (fun k => horologelaw05_DayYears.j0 k y j p.1 p.2 (if -20000 ≤ y ∧ y ≤ 20000 then (S y, none) else (0, some 13) : Int × Option Int).1 (if -20000 ≤ y ∧ y ≤ 20000 then (S y, none) else (0, some 13) : Int × Option Int).2 true) true := by
    intro h
    refine Ev.up ?_
    simp only [horologelaw05_DayYears.j0, if_neg h, if_true]
    exact Ev.bindc (show horologenum_Is.f (some 13) 13 = some true from rfl) (Ev.pos rfl h1)
  refine Ev.ite (fun h => bad (by omega)) (fun h => ?_)
  by_cases h2 : y > 20000
  · rw [decide_eq_true h2]; exact bad (by omega)
  · rw [decide_eq_false h2]
    refine Ev.up ?_
    simp only [horologelaw05_DayYears.j0, if_pos (show -20000 ≤ y ∧ y ≤ 20000 by omega), Bool.false_eq_true, if_false, Option.isNone_none, if_true]
    exact Ev.bind (rstart_is y (by omega) (by omega)) (Ev.pos rfl h1)
end Go.Proofs.Ytmgeiennacgleaa.Pure
