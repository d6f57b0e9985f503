/- RuleDays: which rules there are, and their days and seconds in any year, are the document's. For every input of Go's kinds; no further condition. -/
import Derived.Test.YtnjeemghkpgcfaaMRuleDaysx
import Derived.Test.YtnjeemghkpgcfaaCalBase
namespace Go.Proofs.Ytnjeemghkpgcfaa.MRuleDays
open Go.RowKit Go.Proofs.YtnjeemghkpgcfaaW.PrintWords Go.Proofs.YtnjeemghkpgcfaaW.PrintLast Go.Proofs.YtnjeemghkpgcfaaW.PrintMore Go.Proofs.Ytnjeemghkpgcfaa.Base
set_option linter.unusedVariables false
set_option linter.unusedSimpArgs false

theorem num_is (e : Option Int) : horologenum_Num.f e = some (match e with | none => 0 | some c => if c = 0 then -1 else c) := by
  unfold horologenum_Num.f
  cases e <;> simp
  split <;> rfl
theorem leap_is (y : Int) : day_Leap.f y = some (decide (lp y = 1)) := by
  have t4 : Int.tmod y 4 = 0 ↔ y % 4 = 0 := by rw [tmod_is]; split <;> omega
  have t100 : Int.tmod y 100 = 0 ↔ y % 100 = 0 := by rw [tmod_is]; split <;> omega
  have t400 : Int.tmod y 400 = 0 ↔ y % 400 = 0 := by rw [tmod_is]; split <;> omega
  have b400 : (Int.tmod y 400 == 0) = decide (y % 400 = 0) := by rw [← decide_eq_decide.mpr t400]; rfl
  unfold day_Leap.f lp
  simp only [t4, t100, b400]
  by_cases p4 : y % 4 = 0 <;> by_cases p100 : y % 100 = 0 <;> by_cases p400 : y % 400 = 0 <;> simp [p4, p100, p400]
theorem right_is (y : Int) : day_right.f y = some (decide (-9999 ≤ y ∧ y ≤ 9999)) := by
  unfold day_right.f
  split
  · congr 1; simp; omega
  · congr 1; simp; omega
/-- A year's and a month's error's number: 0, or the year is none (13), or the month is none (1). -/
def monthV (y m : Int) : Int × Option Int := if -9999 ≤ y ∧ y ≤ 9999 then (if 1 ≤ m ∧ m ≤ 12 then (ml y m, none) else (0, some 1)) else (0, some 13)
theorem month_j1 (m : Int) (hm : 1 ≤ m ∧ m ≤ 12) (b : Bool) : Ev (fun k => day_Month.j1 k m b) (if b = true then (29, none) else if m = 2 then (28, none) else (30 + (m + m / 8) % 2, none)) := by
  refine Ev.up ?_
  simp only [day_Month.j1]
  refine Ev.ite (fun h => ?_) (fun h => ?_)
  · rw [if_pos h]; exact Ev.now _
  · rw [if_neg h]
    refine Ev.ite (fun h2 => ?_) (fun h2 => ?_)
    · rw [if_pos h2]; exact Ev.now _
    · rw [if_neg h2]
      refine Ev.cast (Ev.now _) ?_
      rw [tdiv_is m 8, if_neg (by omega), wr (n := m / 8) (by omega), wr (n := m + m / 8) (by omega), tmod_is, if_neg (by omega), wr (by omega)]
theorem month_is (y m : Int) : Ev (fun k => day_Month.f k y m) (monthV y m) := by
  unfold day_Month.f monthV
  refine Ev.bindc (right_is y) ?_
  by_cases hy : -9999 ≤ y ∧ y ≤ 9999
  · rw [if_pos hy]
    refine Ev.pos (decide_eq_true hy) ?_
    have bad : ¬ (1 ≤ m ∧ m ≤ 12) → Ev (fun k => day_Month.j0 k y m true) (if 1 ≤ m ∧ m ≤ 12 then (ml y m, none) else (0, some 1)) := by
      intro h
      rw [if_neg h]
      refine Ev.up ?_
      simp only [day_Month.j0, if_true]
      exact Ev.now _
    refine Ev.ite (fun h => bad (by omega)) (fun h => ?_)
    by_cases h2 : m > 12
    · rw [decide_eq_true h2]; exact bad (by omega)
    · rw [decide_eq_false h2, if_pos (by omega)]
      refine Ev.up ?_
      simp only [day_Month.j0, Bool.false_eq_true, if_false]
      have l := lp_01 y
      refine Ev.ite (fun h3 => ?_) (fun h3 => ?_)
      · refine Ev.bindc (leap_is y) (Ev.cast (month_j1 m (by omega) _) ?_)
        unfold ml
        by_cases q : lp y = 1
        · rw [if_pos (decide_eq_true q), if_pos h3, q]; rfl
        · rw [if_neg (by rw [decide_eq_false q]; decide), if_pos h3, if_pos h3, show lp y = 0 by omega]; rfl
      · refine Ev.cast (month_j1 m (by omega) _) ?_
        unfold ml
        rw [if_neg (by decide), if_neg h3, if_neg h3]
  · rw [if_neg hy]
    exact Ev.neg (by rw [decide_eq_false hy]; decide) (Ev.now _)
theorem floor_is (a b : Int) (hb : b = 400 ∨ b = 146097) (ha : -100000000 ≤ a ∧ a ≤ 100000000) : day_floor.f a b = some (a / b) := by
  unfold day_floor.f
  rw [tmod_is, tdiv_is]
  rcases hb with rfl | rfl
  · rw [if_neg (by decide)]
    by_cases h : a < 0
    · simp only [if_pos h]
      rw [wr (n := -(-a / 400)) (by omega)]
      split
      · rw [wr (by omega)]; congr 1; omega
      · congr 1; omega
    · simp only [if_neg h]
      rw [if_neg (by omega), wr (by omega)]
  · rw [if_neg (by decide)]
    by_cases h : a < 0
    · simp only [if_pos h]
      rw [wr (n := -(-a / 146097)) (by omega)]
      split
      · rw [wr (by omega)]; congr 1; omega
      · congr 1; omega
    · simp only [if_neg h]
      rw [if_neg (by omega), wr (by omega)]
theorem number_is (y m d : Int) (hy : -30000 ≤ y ∧ y ≤ 30000) (h1 : 1 ≤ m) (h2 : m ≤ 12) (hd : -1000 ≤ d ∧ d ≤ 1000) : day_number.f y m d = some (nm y m d) := by
  have core : ∀ y m : Int, -30001 ≤ y → y ≤ 30001 → 3 ≤ m → m ≤ 14 →
      wrap64 (wrap64 (wrap64 (wrap64 (wrap64 (wrap64 (y / 400 * 146097) + wrap64 (wrap64 (y - wrap64 (y / 400 * 400)) * 365)) + wrap64 (Int.tdiv (wrap64 (y - wrap64 (y / 400 * 400))) 4)) - wrap64 (Int.tdiv (wrap64 (y - wrap64 (y / 400 * 400))) 100)) + wrap64 (wrap64 (wrap64 (Int.tdiv (wrap64 (wrap64 (153 * wrap64 (m - 3)) + 2)) 5) + d) - 1)) - 719468) = nmM y m d := by
    intro y m a1 a2 a3 a4
    have e : y - y / 400 * 400 = y % 400 := by omega
    rw [wr (n := y / 400 * 400) (by omega), e, wr (n := y % 400) (by omega), tdiv_is, tdiv_is, if_neg (by omega), if_neg (by omega)]
    rw [wr (n := m - 3) (by omega), wr (n := 153 * (m - 3)) (by omega), wr (n := 153 * (m - 3) + 2) (by omega), tdiv_is, if_neg (by omega)]
    rw [wr (n := y / 400 * 146097) (by omega), wr (n := y % 400 * 365) (by omega), wr (n := y % 400 / 4) (by omega), wr (n := y % 400 / 100) (by omega), wr (n := (153 * (m - 3) + 2) / 5) (by omega)]
    rw [wr (n := y / 400 * 146097 + y % 400 * 365) (by omega), wr (n := y / 400 * 146097 + y % 400 * 365 + y % 400 / 4) (by omega), wr (n := y / 400 * 146097 + y % 400 * 365 + y % 400 / 4 - y % 400 / 100) (by omega)]
    rw [wr (n := (153 * (m - 3) + 2) / 5 + d) (by omega), wr (n := (153 * (m - 3) + 2) / 5 + d - 1) (by omega), wr (n := y / 400 * 146097 + y % 400 * 365 + y % 400 / 4 - y % 400 / 100 + ((153 * (m - 3) + 2) / 5 + d - 1)) (by omega), wr (by omega)]
    unfold nmM; omega
  unfold day_number.f
  split
  · rw [wr (n := y - 1) (by omega), floor_is _ _ (Or.inl rfl) (by omega), wr (n := m + 12) (by omega)]
    simp only [Option.bind_some]
    rw [core (y - 1) (m + 12) (by omega) (by omega) (by omega) (by omega), nmM_early y m d h1 (by omega)]
  · rw [floor_is _ _ (Or.inl rfl) (by omega)]
    simp only [Option.bind_some]
    rw [core y m (by omega) (by omega) (by omega) (by omega), nmM_late y m d (by omega) h2]
theorem nm_11 (y : Int) : nm y 1 1 = S y := by unfold nm; rw [cm_one]; omega
theorem start_is (y : Int) : day_Start.f y = some (if -20000 ≤ y ∧ y ≤ 20000 then (S y, none) else (0, some 13)) := by
  unfold day_Start.f
  split
  · rw [if_neg (by omega)]
  · split
    · rw [if_neg (by omega)]
    · rw [if_pos (by omega), number_is y 1 1 (by omega) (by decide) (by decide) (by omega), nm_11]
      rfl
theorem weekday_is (n : Int) : day_Weekday.f n = some ((n + 3) % 7 + 1) := by
  unfold day_Weekday.f
  rw [tmod_is n 7]
  split
  · rw [wr (n := -(-n % 7) + 3) (by omega), tmod_is (-(-n % 7) + 3) 7]
    split
    · rw [wr (n := -(-(-(-n % 7) + 3) % 7) + 7) (by omega), tmod_is, if_neg (by omega), wr (by omega)]; congr 1; omega
    · rw [wr (n := (-(-n % 7) + 3) % 7 + 7) (by omega), tmod_is, if_neg (by omega), wr (by omega)]; congr 1; omega
  · rw [wr (n := n % 7 + 3) (by omega), tmod_is (n % 7 + 3) 7, if_neg (by omega), wr (n := (n % 7 + 3) % 7 + 7) (by omega), tmod_is, if_neg (by omega), wr (by omega)]; congr 1; omega
theorem rleap_is (y : Int) : horologeref05_Leap.f y = some (decide (lp y = 1)) := by
  have t4 : Int.tmod y 4 = 0 ↔ y % 4 = 0 := by rw [tmod_is]; split <;> omega
  have t100 : Int.tmod y 100 = 0 ↔ y % 100 = 0 := by rw [tmod_is]; split <;> omega
  have t400 : Int.tmod y 400 = 0 ↔ y % 400 = 0 := by rw [tmod_is]; split <;> omega
  have b100 : (Int.tmod y 100 != 0) = !decide (y % 100 = 0) := by rw [← decide_eq_decide.mpr t100]; rfl
  unfold horologeref05_Leap.f lp
  simp only [t4, t400, b100]
  by_cases p400 : y % 400 = 0
  · have p4 : y % 4 = 0 := by omega
    simp [p4, p400]
  · by_cases p4 : y % 4 = 0 <;> by_cases p100 : y % 100 = 0 <;> simp [p4, p100, p400]
theorem rdays_is (y : Int) : horologeref05_Days.f y = some (365 + lp y) := by
  unfold horologeref05_Days.f
  have l := lp_01 y
  rw [rleap_is]
  simp only [Option.bind_some]
  by_cases h : lp y = 1
  · rw [if_pos (decide_eq_true h), h]; rfl
  · rw [if_neg (by rw [decide_eq_false h]; decide), show lp y = 0 by omega]; rfl
theorem rmonth_is (y m : Int) (h1 : 1 ≤ m) (h2 : m ≤ 12) : horologeref05_Month.f y m = some (ml y m) := by
  unfold horologeref05_Month.f
  simp only [Option.bind_some, rleap_is]
  have l := lp_01 y
  have w : wrap64 (m - 1) = m - 1 := wr (by omega)
  have hr : m ≠ 2 ∨ lp y = 0 → rd [31, 28, 31, 30, 31, 30, 31, 31, 30, 31, 30, 31] (m - 1) = ml y m := by
    intro h
    unfold ml
    have := m12 h1 h2
    rcases this with e | e | e | e | e | e | e | e | e | e | e | e <;> subst e
    all_goals first
      | (rw [if_neg (by decide)]; decide)
      | (rw [if_pos (by decide), h.resolve_left (by decide)]; decide)
  rw [w]
  by_cases h : m = 2
  · rw [if_pos h]
    by_cases q : lp y = 1
    · rw [if_pos (decide_eq_true q)]
      unfold ml
      rw [if_pos h, q]; rfl
    · rw [if_neg (by rw [decide_eq_false q]; decide), if_pos (by omega), if_pos (by simp; omega), hr (by omega)]
  · rw [if_neg h, if_pos (by omega), if_pos (by simp; omega), hr (by omega)]
theorem rstart_l2 (y n : Int) (hn : -100000000 ≤ n ∧ n ≤ 100000000) (m : Nat) : ∀ x : Int, 1970 ≤ x → x + m = y → y ≤ 2400 → Ev (fun k => horologeref05_Start.l2 k y (n + S x) x) (n + S y) := by
  induction m with
  | zero =>
    intro x h1 h2 h3
    refine Ev.up ?_
    simp only [horologeref05_Start.l2]
    rw [show x = y by omega]
    exact Ev.neg (by omega) (Ev.now _)
  | succ m ih =>
    intro x h1 h2 h3
    have l := lp_01 x
    have s := S_succ x
    have b1 := S_mono h1
    have b2 := S_mono (show x ≤ 2400 by omega)
    have e1 : S 2400 = 157054 := by decide
    have e0 := S_1970
    refine Ev.up ?_
    simp only [horologeref05_Start.l2, rdays_is, Option.bind_some]
    rw [wr (n := x + 1) (by omega), wr (n := n + S x + (365 + lp x)) (by omega)]
    have := ih (x + 1) (by omega) (by omega) h3
    rw [s] at this
    refine Ev.pos (by omega) ?_
    rw [show n + S x + (365 + lp x) = n + (S x + 365 + lp x) by omega]
    exact this
theorem rstart_l1 (m : Nat) : ∀ y n : Int, 1970 ≤ y → y < 2370 + 400 * m → m ≤ 80 → -50000000 ≤ n → n ≤ 50000000 - 146097 * m → Ev (fun k => horologeref05_Start.l1 k y n) (n + S y) := by
  induction m with
  | zero =>
    intro y n h1 h2 h3 h4 h5
    refine Ev.up ?_
    simp only [horologeref05_Start.l1]
    refine Ev.neg (by omega) ?_
    have := rstart_l2 y n (by omega) (y - 1970).toNat 1970 (by decide) (by omega) (by omega)
    rw [S_1970, Int.add_zero] at this
    exact this
  | succ m ih =>
    intro y n h1 h2 h3 h4 h5
    by_cases h : y ≥ 2370
    · refine Ev.up ?_
      simp only [horologeref05_Start.l1]
      refine Ev.pos h ?_
      rw [wr (n := y - 400) (by omega), wr (n := n + 146097) (by omega)]
      have := ih (y - 400) (n + 146097) (by omega) (by omega) (by omega) (by omega) (by omega)
      have e := S_400 (y - 400)
      rw [show y - 400 + 400 = y by omega] at e
      rw [show n + S y = n + 146097 + S (y - 400) by omega]
      exact this
    · exact ih y n h1 (by omega) (by omega) h4 (by omega)
theorem rstart_l0 (m : Nat) : ∀ y n : Int, 1970 - 400 * m ≤ y → y ≤ 30000 → m ≤ 80 → -50000000 + 146097 * m ≤ n → n ≤ 30000000 → Ev (fun k => horologeref05_Start.l0 k y n) (n + S y) := by
  induction m with
  | zero =>
    intro y n h1 h2 h3 h4 h5
    refine Ev.up ?_
    simp only [horologeref05_Start.l0]
    exact Ev.neg (by omega) (rstart_l1 80 y n (by omega) (by omega) (by omega) (by omega) (by omega))
  | succ m ih =>
    intro y n h1 h2 h3 h4 h5
    by_cases h : y < 1970
    · refine Ev.up ?_
      simp only [horologeref05_Start.l0]
      refine Ev.pos h ?_
      rw [wr (n := y + 400) (by omega), wr (n := n - 146097) (by omega)]
      have := ih (y + 400) (n - 146097) (by omega) (by omega) (by omega) (by omega) (by omega)
      rw [S_400] at this
      rw [show n + S y = n - 146097 + (S y + 146097) by omega]
      exact this
    · exact ih y n (by omega) h2 (by omega) (by omega) h5
theorem rstart_is (y : Int) (h1 : -30000 ≤ y) (h2 : y ≤ 30000) : Ev (fun k => horologeref05_Start.f k y) (S y) := by
  have := rstart_l0 80 y 0 (by omega) h2 (by omega) (by omega) (by omega)
  rw [Int.zero_add] at this
  exact this
theorem rweekday_is (n : Int) : horologeref05_Weekday.f n = some ((n + 3) % 7 + 1) := by
  unfold horologeref05_Weekday.f
  have pick : ∀ r : Int, 0 ≤ r → r < 7 → rd [4, 5, 6, 7, 1, 2, 3] r = (r + 3) % 7 + 1 := by
    intro r h0 h1
    have : r = 0 ∨ r = 1 ∨ r = 2 ∨ r = 3 ∨ r = 4 ∨ r = 5 ∨ r = 6 := by omega
    rcases this with rfl | rfl | rfl | rfl | rfl | rfl | rfl <;> rfl
  have hl : (([4, 5, 6, 7, 1, 2, 3] : List Int).length : Int) = 7 := rfl
  have tb := tmod_is n 7
  by_cases hn : n < 0
  · rw [if_pos hn] at tb
    rw [tb]
    by_cases hz : -((-n) % 7) < 0
    · rw [if_pos hz]
      simp only [Option.bind_some, hl]
      rw [show wrap64 (-((-n) % 7) + 7) = -((-n) % 7) + 7 from wr (by omega), if_pos (by omega), if_pos (by omega), pick _ (by omega) (by omega)]
      congr 1; omega
    · rw [if_neg hz]
      simp only [Option.bind_some, hl]
      rw [if_pos (by omega), if_pos (by omega), pick _ (by omega) (by omega)]
      congr 1; omega
  · rw [if_neg hn] at tb
    rw [tb, if_neg (by omega)]
    simp only [Option.bind_some, hl]
    rw [if_pos (by omega), if_pos (by omega), pick _ (by omega) (by omega)]
    congr 1; omega
def mayR (kind mo wk d : Int) : Prop := (kind = 1 ∧ 1 ≤ d ∧ d ≤ 365 ∧ mo = 0 ∧ wk = 0) ∨ (kind = 2 ∧ 0 ≤ d ∧ d ≤ 365 ∧ mo = 0 ∧ wk = 0) ∨ (kind = 3 ∧ 1 ≤ mo ∧ mo ≤ 12 ∧ 1 ≤ wk ∧ wk ≤ 5 ∧ 0 ≤ d ∧ d ≤ 6)
instance (kind mo wk d : Int) : Decidable (mayR kind mo wk d) := inferInstanceAs (Decidable (_ ∨ _ ∨ _))
def timeR (t : Int) : Prop := -604799 ≤ t ∧ t ≤ 604799
instance (t : Int) : Decidable (timeR t) := inferInstanceAs (Decidable (_ ∧ _))
/-- What is wrong with a rule. -/
def chkV (kind mo wk d t : Int) : Option Int := if 1 ≤ kind ∧ kind ≤ 3 then (if mayR kind mo wk d ∧ timeR t then none else some 1) else some 11
theorem chkV_err (kind mo wk d t : Int) : chkV kind mo wk d t ≠ some 0 := by
  unfold chkV
  repeat' split
  all_goals simp
theorem chkV_none {kind mo wk d t : Int} (h : chkV kind mo wk d t = none) : mayR kind mo wk d ∧ timeR t := by
  unfold chkV at h
  by_cases h1 : 1 ≤ kind ∧ kind ≤ 3
  · rw [if_pos h1] at h
    by_cases h2 : mayR kind mo wk d ∧ timeR t
    · exact h2
    · rw [if_neg h2] at h; cases h
  · rw [if_neg h1] at h; cases h
theorem in_is (x a b : Int) : rule_in.f x a b = some (decide (a ≤ x ∧ x ≤ b)) := by
  unfold rule_in.f
  by_cases h : x ≥ a
  · rw [if_pos h]; congr 1; exact decide_eq_decide.mpr ⟨fun q => ⟨h, q⟩, fun q => q.2⟩
  · rw [if_neg h]; congr 1; exact (decide_eq_false (fun q => h q.1)).symm
theorem may_is (kind mo wk d t : Int) (hk : 1 ≤ kind ∧ kind ≤ 3) : rule_Rule_may.f kind mo wk d t = some (decide (mayR kind mo wk d)) := by
  unfold rule_Rule_may.f
  by_cases h1 : kind = 1
  · rw [if_pos h1, in_is]
    simp only [Option.bind_some]
    by_cases h2 : 1 ≤ d ∧ d ≤ 365
    · rw [if_pos (decide_eq_true h2)]
      by_cases h3 : mo = 0
      · rw [if_pos h3]; congr 1
        rw [Bool.eq_iff_iff, beq_iff_eq, decide_eq_true_iff]
        unfold mayR; constructor
        · intro q; omega
        · intro q; omega
      · rw [if_neg h3]; congr 1; exact (decide_eq_false (fun q => by unfold mayR at q; omega)).symm
    · rw [if_neg (by simpa using h2)]; congr 1; exact (decide_eq_false (fun q => by unfold mayR at q; omega)).symm
  · rw [if_neg h1]
    by_cases h4 : kind = 2
    · rw [if_pos h4, in_is]
      simp only [Option.bind_some]
      by_cases h2 : 0 ≤ d ∧ d ≤ 365
      · rw [if_pos (decide_eq_true h2)]
        by_cases h3 : mo = 0
        · rw [if_pos h3]; congr 1
          rw [Bool.eq_iff_iff, beq_iff_eq, decide_eq_true_iff]
          unfold mayR; constructor
          · intro q; omega
          · intro q; omega
        · rw [if_neg h3]; congr 1; exact (decide_eq_false (fun q => by unfold mayR at q; omega)).symm
      · rw [if_neg (by simpa using h2)]; congr 1; exact (decide_eq_false (fun q => by unfold mayR at q; omega)).symm
    · rw [if_neg h4, in_is]
      simp only [Option.bind_some]
      by_cases h2 : 1 ≤ mo ∧ mo ≤ 12
      · rw [if_pos (decide_eq_true h2), in_is]
        simp only [Option.bind_some]
        by_cases h3 : 1 ≤ wk ∧ wk ≤ 5
        · rw [if_pos (decide_eq_true h3), in_is]
          simp only [Option.bind_some]
          congr 1
          apply decide_eq_decide.mpr
          unfold mayR; constructor
          · intro q; omega
          · intro q; omega
        · rw [if_neg (by simpa using h3)]; congr 1; exact (decide_eq_false (fun q => by unfold mayR at q; omega)).symm
      · rw [if_neg (by simpa using h2)]; congr 1; exact (decide_eq_false (fun q => by unfold mayR at q; omega)).symm
theorem chk_is (kind mo wk d t : Int) : rule_Check.f kind mo wk d t = some (chkV kind mo wk d t) := by
  unfold rule_Check.f chkV
  rw [in_is]
  simp only [Option.bind_some]
  by_cases hk : 1 ≤ kind ∧ kind ≤ 3
  · rw [if_pos (decide_eq_true hk), if_pos hk, may_is kind mo wk d t hk]
    simp only [Option.bind_some]
    by_cases hm : mayR kind mo wk d
    · rw [if_pos (decide_eq_true hm), in_is]
      simp only [Option.bind_some]
      by_cases ht : timeR t
      · rw [if_pos (decide_eq_true (show -604799 ≤ t ∧ t ≤ 604799 from ht)), if_pos ⟨hm, ht⟩]
      · rw [if_neg (by rw [decide_eq_true_iff]; exact ht), if_neg (fun q => ht q.2)]
    · rw [if_neg (by simpa using hm), if_neg (fun q => hm q.1)]
  · rw [if_neg (by simpa using hk), if_neg hk]
theorem lp_red (y : Int) (h : -30000 ≤ y ∧ y ≤ 30000) : lp (wrap64 (Int.tmod y 400 + 2000)) = lp y ∧ 1600 ≤ wrap64 (Int.tmod y 400 + 2000) ∧ wrap64 (Int.tmod y 400 + 2000) ≤ 2400 := by
  have e : wrap64 (Int.tmod y 400 + 2000) = (if y < 0 then -((-y) % 400) else y % 400) + 2000 := by
    rw [tmod_is]
    by_cases hy : y < 0
    · rw [if_pos hy, wr (by omega)]
    · rw [if_neg hy, wr (by omega)]
  rw [e]
  by_cases hy : y < 0
  · rw [if_pos hy]
    refine ⟨?_, by omega, by omega⟩
    unfold lp
    congr 1
    exact propext ⟨fun q => by omega, fun q => by omega⟩
  · rw [if_neg hy]
    refine ⟨?_, by omega, by omega⟩
    unfold lp
    congr 1
    exact propext ⟨fun q => by omega, fun q => by omega⟩
/-- The days of a year ahead of a month; month 13 is the next year's first. -/
def cx (y m : Int) : Int := if m ≤ 12 then cm y m else 365 + lp y
theorem cx_succ (y m : Int) (h1 : 1 ≤ m) (h2 : m ≤ 12) : cx y (m + 1) = cx y m + ml y m := by
  unfold cx
  by_cases h : m ≤ 11
  · rw [if_pos (by omega), if_pos (by omega), cm_succ y m h1 h]
  · rw [if_neg (by omega), if_pos (by omega), show m = 12 by omega, cm_last]
theorem cx_bd (y m : Int) (h1 : 1 ≤ m) (h2 : m ≤ 13) : 0 ≤ cx y m ∧ cx y m ≤ 366 := by
  have l := lp_01 y
  unfold cx
  split
  · have := cm_bd y m h1 (by omega); omega
  · omega
theorem S_bd2 (y : Int) (h : -20001 ≤ y ∧ y ≤ 20001) : -9000000 ≤ S y ∧ S y ≤ 9000000 := by unfold S; omega
theorem rmon_l0 (y w : Int) (hy : -20000 ≤ y ∧ y ≤ 20000) (hw : w ≤ 13) (j : Nat) : ∀ m : Int, 1 ≤ m → m + j = w → Ev (fun k => rule_month.l0 k y w (S y + cx y m) m) (S y + cx y w, none) := by
  have sb := S_bd2 y (by omega)
  induction j with
  | zero =>
    intro m h1 h2
    refine Ev.up ?_
    simp only [rule_month.l0]
    rw [show m = w by omega]
    exact Ev.neg (by omega) (Ev.now _)
  | succ j ih =>
    intro m h1 h2
    obtain ⟨r1, r2, r3⟩ := lp_red y (by omega)
    have e : monthV (wrap64 (Int.tmod y 400 + 2000)) m = (ml y m, none) := by
      unfold monthV
      rw [if_pos (by omega), if_pos (by omega)]
      unfold ml; rw [r1]
    have hm := month_is (wrap64 (Int.tmod y 400 + 2000)) m
    rw [e] at hm
    have b := cx_bd y m h1 (by omega)
    have l := ml_bd y m
    refine Ev.up ?_
    simp only [rule_month.l0]
    refine Ev.pos (by omega) (Ev.bind hm (Ev.pos rfl ?_))
    simp only []
    rw [show wrap64 (S y + cx y m + ml y m) = S y + cx y (m + 1) by rw [cx_succ y m h1 (by omega), wr (by omega)]; omega, show wrap64 (m + 1) = m + 1 from wr (by omega)]
    exact ih (m + 1) (by omega) (by omega)
theorem rmon_is (y w : Int) (hy : -20000 ≤ y ∧ y ≤ 20000) (h1 : 1 ≤ w) (h2 : w ≤ 13) : Ev (fun k => rule_month.f k y w) (S y + cx y w, none) := by
  unfold rule_month.f
  refine Ev.bindc (start_is y) ?_
  rw [if_pos hy]
  refine Ev.pos rfl ?_
  have := rmon_l0 y w hy h2 (w - 1).toNat 1 (by decide) (by omega)
  rw [show cx y 1 = 0 by unfold cx; rw [if_pos (by decide), cm_one], Int.add_zero] at this
  exact this
/-- The day of a Weekly rule. -/
def aheadV (y mo d : Int) : Int := (d - ((S y + cm y mo + 3) % 7 + 1) % 7 + 7) % 7
def wklV (y mo wk d : Int) : Int := if S y + cm y mo + aheadV y mo d + 7 * (wk - 1) ≥ S y + cm y mo + ml y mo then S y + cm y mo + aheadV y mo d + 7 * (wk - 1) - 7 else S y + cm y mo + aheadV y mo d + 7 * (wk - 1)
theorem weekly_is (kind mo wk d t y : Int) (hy : -20000 ≤ y ∧ y ≤ 20000) (hm : 1 ≤ mo ∧ mo ≤ 12) (hw : 1 ≤ wk ∧ wk ≤ 5) (hd : 0 ≤ d ∧ d ≤ 6) : Ev (fun k => rule_Rule_weekly.f k kind mo wk d t y) (wklV y mo wk d, none) := by
  have sb := S_bd2 y (by omega)
  have b := cm_bd y mo hm.1 hm.2
  have l := ml_bd y mo
  have e1 : cx y mo = cm y mo := by unfold cx; rw [if_pos hm.2]
  have e2 : cx y (mo + 1) = cm y mo + ml y mo := by rw [cx_succ y mo hm.1 hm.2, e1]
  have a1 := rmon_is y mo hy hm.1 (by omega)
  have a2 := rmon_is y (mo + 1) hy (by omega) (by omega)
  rw [e1] at a1
  rw [e2] at a2
  unfold rule_Rule_weekly.f
  refine Ev.bind a1 (Ev.pos rfl ?_)
  rw [show wrap64 (mo + 1) = mo + 1 from wr (by omega)]
  refine Ev.bind a2 (Ev.pos rfl (Ev.bindc (weekday_is _) ?_))
  simp only []
  have ea : Int.tmod (wrap64 (wrap64 (d - Int.tmod ((S y + cm y mo + 3) % 7 + 1) 7) + 7)) 7 = aheadV y mo d := by
    unfold aheadV
    rw [tmod_is ((S y + cm y mo + 3) % 7 + 1) 7, if_neg (by omega), wr (n := d - _) (by omega), wr (by omega), tmod_is, if_neg (by omega)]
  have ab : 0 ≤ aheadV y mo d ∧ aheadV y mo d ≤ 6 := by unfold aheadV; omega
  rw [ea, show wrap64 (7 * wrap64 (wk - 1)) = 7 * (wk - 1) by rw [wr (n := wk - 1) (by omega), wr (by omega)], show wrap64 (aheadV y mo d + 7 * (wk - 1)) = aheadV y mo d + 7 * (wk - 1) from wr (by omega), show wrap64 (S y + cm y mo + (aheadV y mo d + 7 * (wk - 1))) = S y + cm y mo + aheadV y mo d + 7 * (wk - 1) by rw [wr (by omega)]; omega, show wrap64 (S y + cm y mo + aheadV y mo d + 7 * (wk - 1) - 7) = S y + cm y mo + aheadV y mo d + 7 * (wk - 1) - 7 from wr (by omega)]
  unfold wklV
  refine Ev.ite (fun q => ?_) (fun q => ?_)
  · rw [if_pos (by omega)]; exact Ev.now _
  · rw [if_neg (by omega)]; exact Ev.now _
theorem wklV_bd (y mo wk d : Int) (hm : 1 ≤ mo ∧ mo ≤ 12) (hw : 1 ≤ wk ∧ wk ≤ 5) : S y + cm y mo ≤ wklV y mo wk d ∧ wklV y mo wk d < S y + cm y mo + ml y mo := by
  have l := ml_bd y mo
  have ab : 0 ≤ aheadV y mo d ∧ aheadV y mo d ≤ 6 := by unfold aheadV; omega
  unfold wklV
  split <;> omega
/-- A right rule's day in a year. -/
def ruleV (kind mo wk d y : Int) : Int := if kind = 3 then wklV y mo wk d else if kind = 1 then (if 60 ≤ d ∧ lp y = 1 then S y + d else S y + d - 1) else S y + d
theorem ruleV_bd (kind mo wk d y : Int) (h : mayR kind mo wk d) (hy : -20000 ≤ y ∧ y ≤ 20000) : -10000000 ≤ ruleV kind mo wk d y ∧ ruleV kind mo wk d y ≤ 10000000 := by
  have sb := S_bd2 y (by omega)
  unfold mayR at h
  unfold ruleV
  by_cases h3 : kind = 3
  · rw [if_pos h3]
    have := wklV_bd y mo wk d (by omega) (by omega)
    have b := cm_bd y mo (by omega) (by omega)
    have l := ml_bd y mo
    omega
  · rw [if_neg h3]
    repeat' split
    all_goals omega
def dayE (kind mo wk d t y : Int) : Int × Option Int := match chkV kind mo wk d t with | some c => (0, some c) | none => if -10001 ≤ y ∧ y ≤ 10001 then (ruleV kind mo wk d y, none) else (0, some 13)
theorem rday_is (kind mo wk d t y : Int) : Ev (fun k => rule_Day.f k kind mo wk d t y) (dayE kind mo wk d t y) := by
  unfold rule_Day.f dayE
  refine Ev.bindc (chk_is kind mo wk d t) ?_
  have hc := @chkV_none kind mo wk d t
  cases hq : chkV kind mo wk d t with
  | some c => exact Ev.neg (by simp) (Ev.now _)
  | none =>
    obtain ⟨hm, ht⟩ := hc hq
    refine Ev.pos rfl (Ev.bindc (in_is _ _ _) ?_)
    simp only []
    by_cases hy : -10001 ≤ y ∧ y ≤ 10001
    · rw [if_pos hy]
      refine Ev.pos (decide_eq_true hy) ?_
      have sb := S_bd2 y (by omega)
      unfold ruleV
      unfold mayR at hm
      refine Ev.ite (fun h3 => ?_) (fun h3 => ?_)
      · rw [if_pos h3]
        exact Ev.bind (weekly_is kind mo wk d t y (by omega) (by omega) (by omega) (by omega)) (Ev.now _)
      · rw [if_neg h3]
        refine Ev.bindc (start_is y) ?_
        rw [if_pos (show -20000 ≤ y ∧ y ≤ 20000 by omega)]
        refine Ev.pos rfl ?_
        simp only []
        rw [show wrap64 (S y + d) = S y + d from wr (by omega), show wrap64 (S y + d - 1) = S y + d - 1 from wr (by omega)]
        refine Ev.ite (fun h1 => ?_) (fun h1 => ?_)
        · rw [if_pos h1]
          refine Ev.ite (fun h60 => ?_) (fun h60 => ?_)
          · rw [if_neg (by omega)]; exact Ev.now _
          · refine Ev.bindc (leap_is y) ?_
            by_cases hl : lp y = 1
            · rw [if_pos (show 60 ≤ d ∧ lp y = 1 from ⟨by omega, hl⟩)]; exact Ev.pos (decide_eq_true hl) (Ev.now _)
            · rw [if_neg (show ¬ (60 ≤ d ∧ lp y = 1) from fun q => hl q.2)]; exact Ev.neg (by simpa using hl) (Ev.now _)
        · rw [if_neg h1]; exact Ev.now _
    · rw [if_neg hy]
      exact Ev.neg (by simpa using hy) (Ev.now _)
def en (e : Option Int) : Int := match e with | none => 0 | some c => c
theorem num_en (e : Option Int) (h : e ≠ some 0) : horologenum_Num.f e = some (en e) := by
  rw [num_is]
  cases e with
  | none => rfl
  | some c =>
    have : c ≠ 0 := fun q => h (by rw [q])
    simp [en, this]
theorem doc_is (kind mo wk d t : Int) : horologelaw16_Document.f kind mo wk d t = some (kind, mo, wk, d, t) := rfl
/-- A rule's second in a year. -/
def atE (kind mo wk d t y : Int) : Int × Option Int := match chkV kind mo wk d t with | some c => (0, some c) | none => if -10001 ≤ y ∧ y ≤ 10001 then (ruleV kind mo wk d y * 86400 + t, none) else (0, some 13)
theorem rat_is (kind mo wk d t y : Int) : Ev (fun k => rule_At.f k kind mo wk d t y) (atE kind mo wk d t y) := by
  unfold rule_At.f atE
  refine Ev.bind (rday_is kind mo wk d t y) ?_
  unfold dayE
  have hc := @chkV_none kind mo wk d t
  cases hq : chkV kind mo wk d t with
  | some c => exact Ev.neg (by simp) (Ev.now _)
  | none =>
    obtain ⟨hm, ht⟩ := hc hq
    simp only []
    by_cases hy : -10001 ≤ y ∧ y ≤ 10001
    · have b := ruleV_bd kind mo wk d y hm (by omega)
      unfold timeR at ht
      rw [if_pos hy, if_pos hy]
      refine Ev.pos rfl (Ev.cast (Ev.now _) ?_)
      simp only []
      rw [show wrap64 (ruleV kind mo wk d y * 86400) = ruleV kind mo wk d y * 86400 from wr (by omega), wr (by omega)]
    · rw [if_neg hy, if_neg hy]
      exact Ev.neg (by simp) (Ev.now _)
theorem rchk_is (kind mo wk d t : Int) : Ev (fun k => horologeref16_Check.f k kind mo wk d t) (en (chkV kind mo wk d t)) := by
  unfold horologeref16_Check.f
  have j : ∀ b : Bool, (b = true ↔ timeR t) → Ev (fun k => horologeref16_Check.j0 k b kind mo wk d t) (en (chkV kind mo wk d t)) := by
    intro b hb
    refine Ev.up ?_
    simp only [horologeref16_Check.j0]
    unfold chkV
    have no : ∀ {g : Nat → Option Int}, (1 ≤ kind ∧ kind ≤ 3) → ¬ (mayR kind mo wk d ∧ timeR t) → Ev g 1 → Ev g (en (if 1 ≤ kind ∧ kind ≤ 3 then (if mayR kind mo wk d ∧ timeR t then none else some 1) else some 11)) := by
      intro g h1 h2 h3
      rw [if_pos h1, if_neg h2]; exact h3
    have yes : ∀ {g : Nat → Option Int}, (1 ≤ kind ∧ kind ≤ 3) → (mayR kind mo wk d ∧ timeR t) → Ev g 0 → Ev g (en (if 1 ≤ kind ∧ kind ≤ 3 then (if mayR kind mo wk d ∧ timeR t then none else some 1) else some 11)) := by
      intro g h1 h2 h3
      rw [if_pos h1, if_pos h2]; exact h3
    refine Ev.ite (fun k1 => ?_) (fun k1 => Ev.ite (fun k2 => ?_) (fun k2 => Ev.ite (fun k3 => ?_) (fun k3 => ?_)))
    · refine Ev.ite (fun q0 => ?_) (fun q0 => no (by omega) (fun z => q0 (hb.mpr z.2)) (Ev.now _))
      refine Ev.ite (fun q1 => ?_) (fun q1 => no (by omega) (fun z => by unfold mayR at z; omega) (Ev.now _))
      refine Ev.ite (fun q2 => ?_) (fun q2 => no (by omega) (fun z => by unfold mayR at z; omega) (Ev.now _))
      refine Ev.ite (fun q3 => ?_) (fun q3 => no (by omega) (fun z => by unfold mayR at z; omega) (Ev.now _))
      refine Ev.ite (fun q4 => ?_) (fun q4 => no (by omega) (fun z => by unfold mayR at z; omega) (Ev.now _))
      exact yes (by omega) ⟨by unfold mayR; omega, hb.mp q0⟩ (Ev.now _)
    · refine Ev.ite (fun q0 => ?_) (fun q0 => no (by omega) (fun z => q0 (hb.mpr z.2)) (Ev.now _))
      refine Ev.ite (fun q1 => ?_) (fun q1 => no (by omega) (fun z => by unfold mayR at z; omega) (Ev.now _))
      refine Ev.ite (fun q2 => ?_) (fun q2 => no (by omega) (fun z => by unfold mayR at z; omega) (Ev.now _))
      refine Ev.ite (fun q3 => ?_) (fun q3 => no (by omega) (fun z => by unfold mayR at z; omega) (Ev.now _))
      refine Ev.ite (fun q4 => ?_) (fun q4 => no (by omega) (fun z => by unfold mayR at z; omega) (Ev.now _))
      exact yes (by omega) ⟨by unfold mayR; omega, hb.mp q0⟩ (Ev.now _)
    · refine Ev.ite (fun q0 => ?_) (fun q0 => no (by omega) (fun z => q0 (hb.mpr z.2)) (Ev.now _))
      refine Ev.ite (fun q1 => ?_) (fun q1 => no (by omega) (fun z => by unfold mayR at z; omega) (Ev.now _))
      refine Ev.ite (fun q2 => ?_) (fun q2 => no (by omega) (fun z => by unfold mayR at z; omega) (Ev.now _))
      refine Ev.ite (fun q3 => ?_) (fun q3 => no (by omega) (fun z => by unfold mayR at z; omega) (Ev.now _))
      refine Ev.ite (fun q4 => ?_) (fun q4 => no (by omega) (fun z => by unfold mayR at z; omega) (Ev.now _))
      refine Ev.ite (fun q5 => ?_) (fun q5 => no (by omega) (fun z => by unfold mayR at z; omega) (Ev.now _))
      refine Ev.ite (fun q6 => ?_) (fun q6 => no (by omega) (fun z => by unfold mayR at z; omega) (Ev.now _))
      exact yes (by omega) ⟨by unfold mayR; omega, hb.mp q0⟩ (Ev.now _)
    · rw [if_neg (by omega)]; exact Ev.now _
  refine Ev.ite (fun h => j _ ?_) (fun h => j _ ?_)
  · rw [decide_eq_true_iff]; exact ⟨fun q => ⟨by omega, q⟩, fun q => q.2⟩
  · exact ⟨fun q => (by cases q), fun q => (by unfold timeR at q; omega)⟩
theorem rof2_l0 (y m n : Int) (h2 : m ≤ 12) (hn : -100000000 ≤ n ∧ n ≤ 100000000) (j : Nat) : ∀ x : Int, 1 ≤ x → x + j = m → Ev (fun k => horologeref05_Of.l0 k y m (n + cm y x) x) (n + cm y m) := by
  induction j with
  | zero =>
    intro x h1 h2
    refine Ev.up ?_
    simp only [horologeref05_Of.l0]
    rw [show x = m by omega]
    exact Ev.neg (by omega) (Ev.now _)
  | succ j ih =>
    intro x h1 h3
    have c := cm_succ y x h1 (by omega)
    have b := cm_bd y x h1 (by omega)
    have l := ml_bd y x
    refine Ev.up ?_
    simp only [horologeref05_Of.l0, rmonth_is y x h1 (by omega), Option.bind_some]
    rw [wr (n := x + 1) (by omega), wr (n := n + cm y x + ml y x) (by omega)]
    have := ih (x + 1) (by omega) (by omega)
    rw [c] at this
    refine Ev.pos (by omega) ?_
    rw [show n + cm y x + ml y x = n + (cm y x + ml y x) by omega]
    exact this
theorem rof2_is (y m d : Int) (hy : -20000 ≤ y ∧ y ≤ 20000) (h1 : 1 ≤ m) (h2 : m ≤ 12) (hd : -1000 ≤ d ∧ d ≤ 1000) : Ev (fun k => horologeref05_Of.f k y m d) (nm y m d) := by
  have sb := S_bd2 y (by omega)
  unfold horologeref05_Of.f
  refine Ev.bind (rstart_is y (by omega) (by omega)) ?_
  rw [wr (n := S y + d) (by omega), wr (n := S y + d - 1) (by omega)]
  have := rof2_l0 y m (S y + d - 1) h2 (by omega) (m - 1).toNat 1 (by decide) (by omega)
  rw [cm_one, Int.add_zero] at this
  rw [show nm y m d = S y + d - 1 + cm y m by unfold nm; omega]
  exact this
/-- A Plain rule's day, month by month. -/
theorem rplain_l0 (y d : Int) (hy : -10001 ≤ y ∧ y ≤ 10001) (hd : 1 ≤ d ∧ d ≤ 365) (j : Nat) : ∀ m : Int, 1 ≤ m → m ≤ 12 → 12 - m = j → 1 ≤ d - cm 2001 m → Ev (fun k => horologeref16_Day.l0 k y (d - cm 2001 m) m) (if 60 ≤ d ∧ lp y = 1 then S y + d else S y + d - 1) := by
  have l0 : lp 2001 = 0 := by decide
  have fin : ∀ m : Int, 1 ≤ m → m ≤ 12 → 1 ≤ d - cm 2001 m → d - cm 2001 m ≤ ml 2001 m → nm y m (d - cm 2001 m) = (if 60 ≤ d ∧ lp y = 1 then S y + d else S y + d - 1) := by
    intro m h1 h2 h3 h4
    have l := lp_01 y
    unfold nm
    unfold cm ml at *
    rw [l0] at h3 h4 ⊢
    by_cases hm : m ≤ 2
    · rw [if_pos hm] at h3 h4 ⊢
      rw [if_pos hm]
      rw [if_neg (by omega)]; omega
    · rw [if_neg hm] at h3 h4 ⊢
      rw [if_neg hm]
      have : m ≠ 2 := by omega
      by_cases hl : lp y = 1
      · rw [if_pos ⟨by omega, hl⟩]; omega
      · rw [if_neg (fun q => hl q.2)]; omega
  induction j with
  | zero =>
    intro m h1 h2 h3 h4
    obtain rfl : m = 12 := by omega
    have c := cm_last 2001
    have cb := cm_bd 2001 12 (by decide) (by decide)
    rw [l0] at c
    refine Ev.up ?_
    simp only [horologeref16_Day.l0, rmonth_is 2001 12 (by decide) (by decide), Option.bind_some]
    refine Ev.neg (by omega) (Ev.bind (rof2_is y 12 _ (by omega) (by decide) (by decide) (by omega)) ?_)
    rw [fin 12 (by decide) (by decide) h4 (by omega)]
    exact Ev.now _
  | succ j ih =>
    intro m h1 h2 h3 h4
    have c := cm_succ 2001 m h1 (by omega)
    have l := ml_bd 2001 m
    have cb := cm_bd 2001 m h1 h2
    refine Ev.up ?_
    simp only [horologeref16_Day.l0, rmonth_is 2001 m h1 h2, Option.bind_some]
    refine Ev.ite (fun q => ?_) (fun q => ?_)
    · rw [show wrap64 (d - cm 2001 m - ml 2001 m) = d - cm 2001 (m + 1) by rw [wr (by omega)]; omega, show wrap64 (m + 1) = m + 1 from wr (by omega)]
      exact ih (m + 1) (by omega) (by omega) (by omega) (by omega)
    · refine Ev.bind (rof2_is y m _ (by omega) h1 h2 (by omega)) ?_
      rw [fin m h1 h2 h4 (by omega)]
      exact Ev.now _
/-- How many such weekdays a month has ahead of a day. -/
def seenV (a x : Int) : Int := if x - 1 ≤ a then 0 else (x - a - 2) / 7 + 1
theorem rwkl_l1 (y mo wk d kind t : Int) (hy : -10001 ≤ y ∧ y ≤ 10001) (hm : 1 ≤ mo ∧ mo ≤ 12) (hw : 1 ≤ wk ∧ wk ≤ 5) (hd : 0 ≤ d ∧ d ≤ 6) (j : Nat) : ∀ x : Int, 1 ≤ x → x + j = ml y mo + 1 → ∀ found : Int,
    (found = if seenV (aheadV y mo d) x = 0 then 0 else S y + cm y mo + aheadV y mo d + 7 * ((if seenV (aheadV y mo d) x < wk then seenV (aheadV y mo d) x else wk) - 1)) →
    Ev (fun k => horologeref16_Day.l1 k y found (if seenV (aheadV y mo d) x < wk then seenV (aheadV y mo d) x else wk) x kind mo wk d t) (wklV y mo wk d) := by
  have sb := S_bd2 y (by omega)
  have b := cm_bd y mo hm.1 hm.2
  have l := ml_bd y mo
  have ab : 0 ≤ aheadV y mo d ∧ aheadV y mo d ≤ 6 := by unfold aheadV; omega
  have aw : ∀ x : Int, Int.tmod ((nm y mo x + 3) % 7 + 1) 7 = d ↔ (x - 1 - aheadV y mo d) % 7 = 0 := by
    intro x
    rw [tmod_is, if_neg (by omega)]
    unfold nm aheadV
    constructor <;> intro q <;> omega
  induction j with
  | zero =>
    intro x h1 h2 found hf
    refine Ev.up ?_
    simp only [horologeref16_Day.l1, rmonth_is y mo hm.1 hm.2, Option.bind_some]
    refine Ev.neg (by omega) (Ev.cast (Ev.now _) ?_)
    rw [hf]
    unfold wklV
    generalize aheadV y mo d = a at *
    have e : seenV a x = (x - a - 2) / 7 + 1 := by unfold seenV; rw [if_neg (by omega)]
    rw [e, if_neg (by omega)]
    generalize S y + cm y mo = f at *
    generalize ml y mo = n at *
    split <;> split <;> omega
  | succ j ih =>
    intro x h1 h2 found hf
    have nb : -10000000 ≤ nm y mo x ∧ nm y mo x ≤ 10000000 := by unfold nm; omega
    have en_ : nm y mo x = S y + cm y mo + x - 1 := rfl
    have sx : 0 ≤ seenV (aheadV y mo d) x ∧ seenV (aheadV y mo d) x ≤ 6 := by unfold seenV; split <;> omega
    refine Ev.up ?_
    simp only [horologeref16_Day.l1, rmonth_is y mo hm.1 hm.2, Option.bind_some]
    rw [show wrap64 (x + 1) = x + 1 from wr (by omega)]
    refine Ev.pos (by omega) (Ev.bind (rof2_is y mo x (by omega) hm.1 hm.2 (by omega)) (Ev.bindc (rweekday_is _) (Ev.ite (fun q => ?_) (fun q => ?_))))
    · have q' := (aw x).mp q
      have e2 : seenV (aheadV y mo d) (x + 1) = seenV (aheadV y mo d) x + 1 := by
        generalize aheadV y mo d = a at *
        unfold seenV
        split <;> split <;> omega
      have e3 : x = aheadV y mo d + 7 * seenV (aheadV y mo d) x + 1 := by
        generalize aheadV y mo d = a at *
        unfold seenV
        split <;> omega
      refine Ev.ite (fun z => ?_) (fun z => ?_)
      · have hlt : seenV (aheadV y mo d) x < wk := by
          by_cases g : seenV (aheadV y mo d) x < wk
          · exact g
          · rw [if_neg g] at z; omega
        rw [if_pos hlt] at z ⊢
        have := ih (x + 1) (by omega) (by omega) (nm y mo x) (by
          rw [e2, if_neg (by omega), en_]
          split <;> omega)
        rw [e2] at this
        rw [show wrap64 (seenV (aheadV y mo d) x + 1) = (if seenV (aheadV y mo d) x + 1 < wk then seenV (aheadV y mo d) x + 1 else wk) by rw [wr (by omega)]; split <;> omega]
        exact this
      · have hge : ¬ seenV (aheadV y mo d) x < wk := by
          intro g
          rw [if_pos g] at z; omega
        rw [if_neg hge] at z hf ⊢
        have := ih (x + 1) (by omega) (by omega) found (by
          rw [hf, e2, if_neg (by omega), if_neg (by omega), if_neg (by omega)])
        rw [e2, if_neg (by omega)] at this
        exact this
    · have q' : ¬ (x - 1 - aheadV y mo d) % 7 = 0 := fun z => q ((aw x).mpr z)
      have e2 : seenV (aheadV y mo d) (x + 1) = seenV (aheadV y mo d) x := by
        generalize aheadV y mo d = a at *
        unfold seenV
        split <;> split <;> omega
      have := ih (x + 1) (by omega) (by omega) found (by rw [e2]; exact hf)
      rw [e2] at this
      exact this
theorem rrday_is (kind mo wk d t y : Int) (h : mayR kind mo wk d) (hy : -10001 ≤ y ∧ y ≤ 10001) : Ev (fun k => horologeref16_Day.f k kind mo wk d t y) (ruleV kind mo wk d y) := by
  have sb := S_bd2 y (by omega)
  unfold horologeref16_Day.f ruleV
  unfold mayR at h
  refine Ev.ite (fun k2 => ?_) (fun k2 => Ev.ite (fun k1 => ?_) (fun k1 => ?_))
  · rw [if_neg (by omega), if_neg (by omega)]
    refine Ev.bind (rstart_is y (by omega) (by omega)) ?_
    rw [show wrap64 (S y + d) = S y + d from wr (by omega)]
    exact Ev.now _
  · rw [if_neg (by omega), if_pos k1]
    have := rplain_l0 y d hy (by omega) 11 1 (by decide) (by decide) (by decide) (by rw [cm_one]; omega)
    rw [cm_one, Int.sub_zero] at this
    exact this
  · have k3 : kind = 3 := by omega
    rw [if_pos k3]
    have ab : 0 ≤ aheadV y mo d ∧ aheadV y mo d ≤ 6 := by unfold aheadV; omega
    have s0 : seenV (aheadV y mo d) 1 = 0 := by unfold seenV; rw [if_pos (by omega)]
    have l := ml_bd y mo
    have := rwkl_l1 y mo wk d kind t hy (by omega) (by omega) (by omega) (ml y mo).toNat 1 (by decide) (by omega) 0 (by rw [s0, if_pos rfl])
    rw [s0, if_pos (by omega)] at this
    exact this
theorem alive_is : Ev (fun k => horologelaw16_alive.f k) true := Ev.of (fun k => horologelaw16_alive.mono k) (k := 40) (by kernel_rfl)
end Go.Proofs.Ytnjeemghkpgcfaa.MRuleDays
namespace Go.Proofs.Ytnjeemghkpgcfaa.Pure
open Go.RowKit Go.Proofs.Ytnjeemghkpgcfaa.MRuleDays Go.Proofs.YtnjeemghkpgcfaaW.PrintWords Go.Proofs.YtnjeemghkpgcfaaW.PrintLast Go.Proofs.Ytnjeemghkpgcfaa.Base
set_option linter.unusedVariables false
set_option linter.unusedSimpArgs false
theorem RuleDays : horologelaw16_RuleDays.Pure := by
  intro kind mo wk d t y hk hmo hwk hd ht hy
  replace hy := i64_of hy
  refine Ev.ok (g := fun k => horologelaw16_RuleDays.f k kind mo wk d t y) ?_
  unfold horologelaw16_RuleDays.f
  refine Ev.bind alive_is (Ev.pos rfl (Ev.bind (rday_is kind mo wk d t y) (Ev.bind (rat_is kind mo wk d t y) (Ev.bindc (doc_is kind mo wk d t) (Ev.bind (rchk_is kind mo wk d t) (Ev.bindc (chk_is kind mo wk d t) (Ev.bindc (num_en _ (chkV_err kind mo wk d t)) (Ev.pos rfl ?_))))))))
  have j0 : ∀ (e : Int) (n s : Int) (en_ : Option Int), en_ ≠ some 0 → e ≠ 0 → n = 0 → s = 0 → en en_ = e → Ev (fun k => horologelaw16_RuleDays.j1 k y n en_ s en_ e kind mo wk d t) true := by
    intro e n s q hq he hn hs hqe
    subst hn hs
    refine Ev.up ?_
    simp only [horologelaw16_RuleDays.j1]
    refine Ev.neg he (Ev.pos trivial (Ev.pos trivial (Ev.bindc (num_en q hq) (Ev.pos hqe (Ev.bindc (num_en q hq) (Ev.cast (Ev.now _) (by rw [hqe]; exact beq_self_eq_true _)))))))
  unfold dayE atE
  have hc := @chkV_none kind mo wk d t
  have he := chkV_err kind mo wk d t
  cases hq : chkV kind mo wk d t with
  | some c =>
    rw [hq] at he
    have hc0 : c ≠ 0 := fun q => he (by rw [q])
    refine Ev.neg hc0 (Ev.up ?_)
    simp only [horologelaw16_RuleDays.j0, Bool.false_eq_true, if_false]
    exact j0 c 0 0 (some c) he hc0 rfl rfl rfl
  | none =>
    obtain ⟨hm, htm⟩ := hc hq
    have b : -10001 ≤ y ∧ y ≤ 10001 → -10000000 ≤ ruleV kind mo wk d y ∧ ruleV kind mo wk d y ≤ 10000000 := fun z => ruleV_bd kind mo wk d y hm (by omega)
    refine Ev.pos rfl ?_
    have bad : ¬ (-10001 ≤ y ∧ y ≤ 10001) → Ev (fun k => horologelaw16_RuleDays.j0 k y 0 (some 13) 0 (some 13) 0 true kind mo wk d t) true := by
      intro h
      refine Ev.up ?_
      simp only [horologelaw16_RuleDays.j0, if_true]
      exact j0 13 0 0 (some 13) (by decide) (by decide) rfl rfl rfl
    by_cases hyy : -10001 ≤ y ∧ y ≤ 10001
    · simp only [if_pos hyy]
      refine Ev.neg (by omega) ?_
      rw [decide_eq_false (by omega)]
      refine Ev.up ?_
      simp only [horologelaw16_RuleDays.j0, Bool.false_eq_true, if_false]
      refine Ev.up ?_
      simp only [horologelaw16_RuleDays.j1]
      refine Ev.pos rfl (Ev.bindc (doc_is kind mo wk d t) (Ev.bind (rrday_is kind mo wk d t y hm hyy) (Ev.pos rfl (Ev.pos rfl (Ev.pos rfl (Ev.cast (Ev.now _) ?_))))))
      unfold timeR at htm
      have := b hyy
      rw [show wrap64 (ruleV kind mo wk d y * 86400) = ruleV kind mo wk d y * 86400 from wr (by omega), show wrap64 (ruleV kind mo wk d y * 86400 + t) = ruleV kind mo wk d y * 86400 + t from wr (by omega)]
      exact beq_self_eq_true _
    · simp only [if_neg hyy]
      refine Ev.ite (fun _ => bad hyy) (fun q => ?_)
      rw [decide_eq_true (by omega)]
      exact bad hyy
end Go.Proofs.Ytnjeemghkpgcfaa.Pure
