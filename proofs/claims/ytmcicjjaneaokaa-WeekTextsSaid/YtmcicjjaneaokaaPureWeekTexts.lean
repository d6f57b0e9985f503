/- WeekTexts: which texts are days of weeks, and which ones, is the document's. For every text of Go's kinds; no further condition (of texts longer than 100 the statement says nothing). -/
import Derived.Test.YtmcicjjaneaokaaTWeekTextsBig3
import Derived.Test.YtmcicjjaneaokaaCalBase
import Derived.Test.YtmcicjjaneaokaaScanBase
namespace Go.Proofs.Ytmcicjjaneaokaa.MWeekTexts
open Go.RowKit Go.Proofs.YtmcicjjaneaokaaW.PrintWords Go.Proofs.YtmcicjjaneaokaaW.PrintLast Go.Proofs.YtmcicjjaneaokaaW.PrintMore Go.Proofs.Ytmcicjjaneaokaa.Base
set_option linter.unusedVariables false
set_option linter.unusedSimpArgs false

theorem num_is (e : Option Int) : horologenum_Num.f e = some (match e with | none => 0 | some c => if c = 0 then -1 else c) := by
  unfold horologenum_Num.f
  cases e <;> simp
  split <;> rfl
theorem floor_is (a b : Int) (hb : b = 400 ∨ b = 146097) (ha : -100000000 ≤ a ∧ a ≤ 100000000) : day_floor.f a b = some (a / b) := by
  unfold day_floor.f
  rw [tmod_is, tdiv_is]
  rcases hb with rfl | rfl
  · rw [if_neg (by decide)]
    by_cases h : a < 0
    · simp only [if_pos h]
      rw [wr (n := -(-a / 400)) (by omega)]
      split
      · rw [wr (by omega)]; congr 1; omega
      · congr 1; omega
    · simp only [if_neg h]
      rw [if_neg (by omega), wr (by omega)]
  · rw [if_neg (by decide)]
    by_cases h : a < 0
    · simp only [if_pos h]
      rw [wr (n := -(-a / 146097)) (by omega)]
      split
      · rw [wr (by omega)]; congr 1; omega
      · congr 1; omega
    · simp only [if_neg h]
      rw [if_neg (by omega), wr (by omega)]
theorem number_is (y m d : Int) (hy : -30000 ≤ y ∧ y ≤ 30000) (h1 : 1 ≤ m) (h2 : m ≤ 12) (hd : -1000 ≤ d ∧ d ≤ 1000) : day_number.f y m d = some (nm y m d) := by
  have core : ∀ y m : Int, -30001 ≤ y → y ≤ 30001 → 3 ≤ m → m ≤ 14 →
      wrap64 (wrap64 (wrap64 (wrap64 (wrap64 (wrap64 (y / 400 * 146097) + wrap64 (wrap64 (y - wrap64 (y / 400 * 400)) * 365)) + wrap64 (Int.tdiv (wrap64 (y - wrap64 (y / 400 * 400))) 4)) - wrap64 (Int.tdiv (wrap64 (y - wrap64 (y / 400 * 400))) 100)) + wrap64 (wrap64 (wrap64 (Int.tdiv (wrap64 (wrap64 (153 * wrap64 (m - 3)) + 2)) 5) + d) - 1)) - 719468) = nmM y m d := by
    intro y m a1 a2 a3 a4
    have e : y - y / 400 * 400 = y % 400 := by omega
    rw [wr (n := y / 400 * 400) (by omega), e, wr (n := y % 400) (by omega), tdiv_is, tdiv_is, if_neg (by omega), if_neg (by omega)]
    rw [wr (n := m - 3) (by omega), wr (n := 153 * (m - 3)) (by omega), wr (n := 153 * (m - 3) + 2) (by omega), tdiv_is, if_neg (by omega)]
    rw [wr (n := y / 400 * 146097) (by omega), wr (n := y % 400 * 365) (by omega), wr (n := y % 400 / 4) (by omega), wr (n := y % 400 / 100) (by omega), wr (n := (153 * (m - 3) + 2) / 5) (by omega)]
    rw [wr (n := y / 400 * 146097 + y % 400 * 365) (by omega), wr (n := y / 400 * 146097 + y % 400 * 365 + y % 400 / 4) (by omega), wr (n := y / 400 * 146097 + y % 400 * 365 + y % 400 / 4 - y % 400 / 100) (by omega)]
    rw [wr (n := (153 * (m - 3) + 2) / 5 + d) (by omega), wr (n := (153 * (m - 3) + 2) / 5 + d - 1) (by omega), wr (n := y / 400 * 146097 + y % 400 * 365 + y % 400 / 4 - y % 400 / 100 + ((153 * (m - 3) + 2) / 5 + d - 1)) (by omega), wr (by omega)]
    unfold nmM; omega
  unfold day_number.f
  split
  · rw [wr (n := y - 1) (by omega), floor_is _ _ (Or.inl rfl) (by omega), wr (n := m + 12) (by omega)]
    simp only [Option.bind_some]
    rw [core (y - 1) (m + 12) (by omega) (by omega) (by omega) (by omega), nmM_early y m d h1 (by omega)]
  · rw [floor_is _ _ (Or.inl rfl) (by omega)]
    simp only [Option.bind_some]
    rw [core y m (by omega) (by omega) (by omega) (by omega), nmM_late y m d (by omega) h2]
theorem nm_11 (y : Int) : nm y 1 1 = S y := by unfold nm; rw [cm_one]; omega
theorem start_is (y : Int) : day_Start.f y = some (if -20000 ≤ y ∧ y ≤ 20000 then (S y, none) else (0, some 13)) := by
  unfold day_Start.f
  split
  · rw [if_neg (by omega)]
  · split
    · rw [if_neg (by omega)]
    · rw [if_pos (by omega), number_is y 1 1 (by omega) (by decide) (by decide) (by omega), nm_11]
      rfl
theorem weekday_is (n : Int) : day_Weekday.f n = some ((n + 3) % 7 + 1) := by
  unfold day_Weekday.f
  rw [tmod_is n 7]
  split
  · rw [wr (n := -(-n % 7) + 3) (by omega), tmod_is (-(-n % 7) + 3) 7]
    split
    · rw [wr (n := -(-(-(-n % 7) + 3) % 7) + 7) (by omega), tmod_is, if_neg (by omega), wr (by omega)]; congr 1; omega
    · rw [wr (n := (-(-n % 7) + 3) % 7 + 7) (by omega), tmod_is, if_neg (by omega), wr (by omega)]; congr 1; omega
  · rw [wr (n := n % 7 + 3) (by omega), tmod_is (n % 7 + 3) 7, if_neg (by omega), wr (n := (n % 7 + 3) % 7 + 7) (by omega), tmod_is, if_neg (by omega), wr (by omega)]; congr 1; omega
theorem first_is : day_First.f = some (-4371587) := by kernel_rfl
theorem last_is : day_Last.f = some 2932896 := by kernel_rfl
theorem rleap_is (y : Int) : horologeref05_Leap.f y = some (decide (lp y = 1)) := by
  have t4 : Int.tmod y 4 = 0 ↔ y % 4 = 0 := by rw [tmod_is]; split <;> omega
  have t100 : Int.tmod y 100 = 0 ↔ y % 100 = 0 := by rw [tmod_is]; split <;> omega
  have t400 : Int.tmod y 400 = 0 ↔ y % 400 = 0 := by rw [tmod_is]; split <;> omega
  have b100 : (Int.tmod y 100 != 0) = !decide (y % 100 = 0) := by rw [← decide_eq_decide.mpr t100]; rfl
  unfold horologeref05_Leap.f lp
  simp only [t4, t400, b100]
  by_cases p400 : y % 400 = 0
  · have p4 : y % 4 = 0 := by omega
    simp [p4, p400]
  · by_cases p4 : y % 4 = 0 <;> by_cases p100 : y % 100 = 0 <;> simp [p4, p100, p400]
theorem rdays_is (y : Int) : horologeref05_Days.f y = some (365 + lp y) := by
  unfold horologeref05_Days.f
  have l := lp_01 y
  rw [rleap_is]
  simp only [Option.bind_some]
  by_cases h : lp y = 1
  · rw [if_pos (decide_eq_true h), h]; rfl
  · rw [if_neg (by rw [decide_eq_false h]; decide), show lp y = 0 by omega]; rfl
theorem rstart_l2 (y n : Int) (hn : -100000000 ≤ n ∧ n ≤ 100000000) (m : Nat) : ∀ x : Int, 1970 ≤ x → x + m = y → y ≤ 2400 → Ev (fun k => horologeref05_Start.l2 k y (n + S x) x) (n + S y) := by
  induction m with
  | zero =>
    intro x h1 h2 h3
    refine Ev.up ?_
    simp only [horologeref05_Start.l2]
    rw [show x = y by omega]
    exact Ev.neg (by omega) (Ev.now _)
  | succ m ih =>
    intro x h1 h2 h3
    have l := lp_01 x
    have s := S_succ x
    have b1 := S_mono h1
    have b2 := S_mono (show x ≤ 2400 by omega)
    have e1 : S 2400 = 157054 := by decide
    have e0 := S_1970
    refine Ev.up ?_
    simp only [horologeref05_Start.l2, rdays_is, Option.bind_some]
    rw [wr (n := x + 1) (by omega), wr (n := n + S x + (365 + lp x)) (by omega)]
    have := ih (x + 1) (by omega) (by omega) h3
    rw [s] at this
    refine Ev.pos (by omega) ?_
    rw [show n + S x + (365 + lp x) = n + (S x + 365 + lp x) by omega]
    exact this
theorem rstart_l1 (m : Nat) : ∀ y n : Int, 1970 ≤ y → y < 2370 + 400 * m → m ≤ 80 → -50000000 ≤ n → n ≤ 50000000 - 146097 * m → Ev (fun k => horologeref05_Start.l1 k y n) (n + S y) := by
  induction m with
  | zero =>
    intro y n h1 h2 h3 h4 h5
    refine Ev.up ?_
    simp only [horologeref05_Start.l1]
    refine Ev.neg (by omega) ?_
    have := rstart_l2 y n (by omega) (y - 1970).toNat 1970 (by decide) (by omega) (by omega)
    rw [S_1970, Int.add_zero] at this
    exact this
  | succ m ih =>
    intro y n h1 h2 h3 h4 h5
    by_cases h : y ≥ 2370
    · refine Ev.up ?_
      simp only [horologeref05_Start.l1]
      refine Ev.pos h ?_
      rw [wr (n := y - 400) (by omega), wr (n := n + 146097) (by omega)]
      have := ih (y - 400) (n + 146097) (by omega) (by omega) (by omega) (by omega) (by omega)
      have e := S_400 (y - 400)
      rw [show y - 400 + 400 = y by omega] at e
      rw [show n + S y = n + 146097 + S (y - 400) by omega]
      exact this
    · exact ih y n h1 (by omega) (by omega) h4 (by omega)
theorem rstart_l0 (m : Nat) : ∀ y n : Int, 1970 - 400 * m ≤ y → y ≤ 30000 → m ≤ 80 → -50000000 + 146097 * m ≤ n → n ≤ 30000000 → Ev (fun k => horologeref05_Start.l0 k y n) (n + S y) := by
  induction m with
  | zero =>
    intro y n h1 h2 h3 h4 h5
    refine Ev.up ?_
    simp only [horologeref05_Start.l0]
    exact Ev.neg (by omega) (rstart_l1 80 y n (by omega) (by omega) (by omega) (by omega) (by omega))
  | succ m ih =>
    intro y n h1 h2 h3 h4 h5
    by_cases h : y < 1970
    · refine Ev.up ?_
      simp only [horologeref05_Start.l0]
      refine Ev.pos h ?_
      rw [wr (n := y + 400) (by omega), wr (n := n - 146097) (by omega)]
      have := ih (y + 400) (n - 146097) (by omega) (by omega) (by omega) (by omega) (by omega)
      rw [S_400] at this
      rw [show n + S y = n - 146097 + (S y + 146097) by omega]
      exact this
    · exact ih y n (by omega) h2 (by omega) (by omega) h5
theorem rstart_is (y : Int) (h1 : -30000 ≤ y) (h2 : y ≤ 30000) : Ev (fun k => horologeref05_Start.f k y) (S y) := by
  have := rstart_l0 80 y 0 (by omega) h2 (by omega) (by omega) (by omega)
  rw [Int.zero_add] at this
  exact this
theorem rweekday_is (n : Int) : horologeref05_Weekday.f n = some ((n + 3) % 7 + 1) := by
  unfold horologeref05_Weekday.f
  have pick : ∀ r : Int, 0 ≤ r → r < 7 → rd [4, 5, 6, 7, 1, 2, 3] r = (r + 3) % 7 + 1 := by
    intro r h0 h1
    have : r = 0 ∨ r = 1 ∨ r = 2 ∨ r = 3 ∨ r = 4 ∨ r = 5 ∨ r = 6 := by omega
    rcases this with rfl | rfl | rfl | rfl | rfl | rfl | rfl <;> rfl
  have hl : (([4, 5, 6, 7, 1, 2, 3] : List Int).length : Int) = 7 := rfl
  have tb := tmod_is n 7
  by_cases hn : n < 0
  · rw [if_pos hn] at tb
    rw [tb]
    by_cases hz : -((-n) % 7) < 0
    · rw [if_pos hz]
      simp only [Option.bind_some, hl]
      rw [show wrap64 (-((-n) % 7) + 7) = -((-n) % 7) + 7 from wr (by omega), if_pos (by omega), if_pos (by omega), pick _ (by omega) (by omega)]
      congr 1; omega
    · rw [if_neg hz]
      simp only [Option.bind_some, hl]
      rw [if_pos (by omega), if_pos (by omega), pick _ (by omega) (by omega)]
      congr 1; omega
  · rw [if_neg hn] at tb
    rw [tb, if_neg (by omega)]
    simp only [Option.bind_some, hl]
    rw [if_pos (by omega), if_pos (by omega), pick _ (by omega) (by omega)]
    congr 1; omega
/-- The Monday of a year's first week. -/
def mon (y : Int) : Int := S y + 3 - (S y + 6) % 7
theorem S_bd (y : Int) (h : -20001 ≤ y ∧ y ≤ 20001) : -9000000 ≤ S y ∧ S y ≤ 9000000 := by unfold S; omega
theorem monday_is (y : Int) : week_monday.f y = some (if -20000 ≤ y ∧ y ≤ 20000 then (mon y, none) else (0, some 13)) := by
  unfold week_monday.f
  rw [start_is]
  simp only [Option.bind_some]
  by_cases h : -20000 ≤ y ∧ y ≤ 20000
  · have b := S_bd y (by omega)
    rw [if_pos h, if_pos h]
    simp only [Option.isNone_none, if_true]
    rw [show wrap64 (S y + 3) = S y + 3 from wr (by omega), weekday_is]
    simp only [Option.bind_some]
    unfold mon
    generalize S y = s at *
    rw [show (s + 3 + 3) % 7 + 1 - 1 = (s + 6) % 7 by omega, show wrap64 ((s + 6) % 7) = (s + 6) % 7 from wr (by omega), show wrap64 (s + 3 - (s + 6) % 7) = s + 3 - (s + 6) % 7 from wr (by omega)]
  · rw [if_neg h, if_neg h]; rfl
/-- The first Thursday from a day on. -/
def fth (n : Int) : Int := n + 6 - (n + 6) % 7
theorem fth_bd (n : Int) : n ≤ fth n ∧ fth n ≤ n + 6 ∧ fth n % 7 = 0 := by unfold fth; omega
theorem mon_fth (y : Int) : mon y = fth (S y) - 3 := by unfold mon fth; omega
theorem fth_add (n i : Int) : fth (n + 7 * i) = fth n + 7 * i := by unfold fth; omega
/-- How many weeks a year has. -/
def cntV (y : Int) : Int := (mon (y + 1) - mon y) / 7
theorem cnt_fth (y : Int) : 7 * cntV y = fth (S (y + 1)) - fth (S y) ∧ 50 ≤ cntV y ∧ cntV y ≤ 55 := by
  have s := S_succ y
  have l := lp_01 y
  unfold cntV
  rw [mon_fth, mon_fth]
  have a := fth_bd (S y)
  have b := fth_bd (S (y + 1))
  omega
def wkOk (y : Int) : Prop := -10000 ≤ y ∧ y ≤ 10000
instance (y : Int) : Decidable (wkOk y) := inferInstanceAs (Decidable (_ ∧ _))
theorem wright_is (y : Int) : week_right.f y = some (decide (wkOk y)) := by
  unfold week_right.f
  split
  · congr 1; exact decide_eq_decide.mpr ⟨fun q => ⟨by omega, q⟩, fun q => q.2⟩
  · congr 1; exact (decide_eq_false (fun q => by have := q.1; omega)).symm
theorem wmonday_is (y : Int) : week_Monday.f y = some (if wkOk y then (mon y, none) else (0, some 13)) := by
  unfold week_Monday.f
  rw [wright_is]
  simp only [Option.bind_some]
  by_cases h : wkOk y
  · have h' := h
    unfold wkOk at h'
    rw [if_pos (decide_eq_true h), if_pos h, monday_is, if_pos (by omega)]; rfl
  · rw [if_neg (by simpa using h), if_neg h]
theorem mon_bd (y : Int) (h : -20001 ≤ y ∧ y ≤ 20001) : -9000010 ≤ mon y ∧ mon y ≤ 9000010 := by
  have := S_bd y h
  unfold mon; omega
theorem wweeks_is (y : Int) : week_Weeks.f y = some (if wkOk y then (cntV y, none) else (0, some 13)) := by
  unfold week_Weeks.f
  rw [wmonday_is]
  simp only [Option.bind_some]
  by_cases h : wkOk y
  · have h' := h
    unfold wkOk at h'
    have c := cnt_fth y
    have b1 := mon_bd y (by omega)
    have b2 := mon_bd (y + 1) (by omega)
    rw [if_pos h, if_pos h]
    simp only [Option.isNone_none, if_true]
    rw [show wrap64 (y + 1) = y + 1 from wr (by omega), monday_is, if_pos (by omega)]
    simp only [Option.bind_some, Option.isNone_none, if_true]
    unfold cntV at c ⊢
    rw [show wrap64 (mon (y + 1) - mon y) = mon (y + 1) - mon y from wr (by omega), tdiv_is, if_neg (by omega), wr (by omega)]
  · rw [if_neg h, if_neg h]; rfl
def dayOk (y w d : Int) : Prop := 1 ≤ w ∧ w ≤ cntV y ∧ 1 ≤ d ∧ d ≤ 7
instance (y w d : Int) : Decidable (dayOk y w d) := inferInstanceAs (Decidable (_ ∧ _))
/-- The number of a week's day. -/
def wdayV (y w d : Int) : Int × Option Int :=
  if wkOk y then (if dayOk y w d then (if -4371587 ≤ mon y + 7 * (w - 1) + d - 1 ∧ mon y + 7 * (w - 1) + d - 1 ≤ 2932896 then (mon y + 7 * (w - 1) + d - 1, none) else (0, some 13)) else (0, some 1)) else (0, some 13)
theorem wthere_is (n : Int) : week_there.f n = some (decide (-4371587 ≤ n ∧ n ≤ 2932896)) := by
  unfold week_there.f
  rw [first_is]
  simp only [Option.bind_some]
  split
  · rw [last_is]
    simp only [Option.bind_some]
    congr 1; exact decide_eq_decide.mpr ⟨fun q => ⟨by omega, q⟩, fun q => q.2⟩
  · congr 1; exact (decide_eq_false (fun q => by have := q.1; omega)).symm
theorem wsum (y w d : Int) (hy : wkOk y) (h : dayOk y w d) : wrap64 (mon y + wrap64 (wrap64 (wrap64 (7 * wrap64 (w - 1)) + d) - 1)) = mon y + 7 * (w - 1) + d - 1 := by
  unfold wkOk at hy
  have c := cnt_fth y
  have b := mon_bd y (by omega)
  unfold dayOk at h
  rw [show wrap64 (w - 1) = w - 1 from wr (by omega), show wrap64 (7 * (w - 1)) = 7 * (w - 1) from wr (by omega), show wrap64 (7 * (w - 1) + d) = 7 * (w - 1) + d from wr (by omega), show wrap64 (7 * (w - 1) + d - 1) = 7 * (w - 1) + d - 1 from wr (by omega), wr (by omega)]
  omega
theorem wday_is (y w d : Int) : week_Day.f y w d = some (wdayV y w d) := by
  unfold week_Day.f wdayV
  rw [wweeks_is]
  simp only [Option.bind_some]
  by_cases hy : wkOk y
  · rw [if_pos hy, if_pos hy]
    simp only [Option.isNone_none, if_true]
    by_cases h : dayOk y w d
    · have h' := h
      unfold dayOk at h'
      have hy' := hy
      unfold wkOk at hy'
      rw [if_pos h, if_neg (by omega), if_neg (by omega), if_neg (by omega), if_neg (by omega), monday_is, if_pos (by omega)]
      simp only [Option.bind_some, Option.isNone_none, if_true]
      rw [wsum y w d hy h, wthere_is]
      simp only [Option.bind_some]
      by_cases g : -4371587 ≤ mon y + 7 * (w - 1) + d - 1 ∧ mon y + 7 * (w - 1) + d - 1 ≤ 2932896
      · rw [if_pos (decide_eq_true g), if_pos g]
      · rw [if_neg (by simpa using g), if_neg g]
    · rw [if_neg h]
      have h' : ¬ (1 ≤ w ∧ w ≤ cntV y ∧ 1 ≤ d ∧ d ≤ 7) := h
      repeat' split
      all_goals first | rfl | (exfalso; omega)
  · rw [if_neg hy, if_neg hy]; rfl
theorem rev_l0 (l : List Int) (hn : l.length ≤ 1000000) (m : Nat) : ∀ (x : List Int) (i : Nat), x.length = l.length → 2 * i + m ≥ l.length → 2 * i ≤ l.length + 1 →
    (∀ t : Nat, t < l.length → rd x t = if t < i ∨ l.length - 1 - i < t then rd l ((l.length - 1 - t : Nat) : Int) else rd l t) →
      Ev (fun k => slices_Reverse_byte_byte.l0 k x i ((l.length : Int) - 1 - i)) l.reverse := by
  induction m with
  | zero =>
    intro x i hl hm h2 h
    refine Ev.up ?_
    simp only [slices_Reverse_byte_byte.l0]
    refine Ev.neg (by omega) ?_
    rw [← rev_of hl (fun t ht => ?_)]
    · exact Ev.now _
    · rw [h t ht]
      by_cases q : t < i ∨ l.length - 1 - i < t
      · rw [if_pos q]
      · rw [if_neg q, show l.length - 1 - t = t by omega]
  | succ m ih =>
    intro x i hl hm h2 h
    by_cases hgo : 2 * i + 1 < l.length
    · have ej : (l.length : Int) - 1 - i = ((l.length - 1 - i : Nat) : Int) := by omega
      refine Ev.up ?_
      simp only [slices_Reverse_byte_byte.l0, ej]
      refine Ev.pos (by omega) (Ev.pos (by omega) (Ev.pos (by omega) (Ev.pos (by omega) (Ev.pos (by omega) ?_))))
      rw [wr (n := (i : Int) + 1) (by omega), wr (n := ((l.length - 1 - i : Nat) : Int) - 1) (by omega)]
      have := ih ((x.set (i : Int).toNat (rd x ((l.length - 1 - i : Nat) : Int))).set ((l.length - 1 - i : Nat) : Int).toNat (rd x i)) (i + 1) (by simp [hl]) (by omega) (by omega) (by
        intro t ht
        simp only [Int.toNat_natCast]
        rw [rd_set _ _ _ (by simp; omega), rd_set _ _ _ (by omega)]
        by_cases t1 : t = l.length - 1 - i
        · rw [if_pos t1, if_pos (by omega), h i (by omega), if_neg (by omega), show l.length - 1 - t = i by omega]
        · rw [if_neg t1]
          by_cases t2 : t = i
          · rw [if_pos t2, if_pos (by omega), h _ (by omega), if_neg (by omega), t2]
          · rw [if_neg t2, h t ht]
            by_cases t3 : t < i ∨ l.length - 1 - i < t
            · rw [if_pos t3, if_pos (by omega)]
            · rw [if_neg t3, if_neg (by omega)])
      rw [show (l.length : Int) - 1 - ((i + 1 : Nat) : Int) = ((l.length - 1 - i : Nat) : Int) - 1 by omega] at this
      exact this
    · exact (by
        refine Ev.up ?_
        simp only [slices_Reverse_byte_byte.l0]
        refine Ev.neg (by omega) ?_
        rw [← rev_of hl (fun t ht => ?_)]
        · exact Ev.now _
        · rw [h t ht]
          by_cases q : t < i ∨ l.length - 1 - i < t
          · rw [if_pos q]
          · rw [if_neg q, show l.length - 1 - t = t by omega])
theorem rev_is (l : List Int) (hn : l.length ≤ 1000000) : Ev (fun k => slices_Reverse_byte_byte.f k l) l.reverse := by
  unfold slices_Reverse_byte_byte.f
  rw [wr (by omega)]
  have := rev_l0 l hn l.length l 0 rfl (by omega) (by omega) (fun t ht => by rw [if_neg (by omega)])
  simpa using this
theorem raw_pad (w : Int) (hw : 0 ≤ w ∧ w ≤ 1000) (m : Nat) : ∀ out : List Int, out.length ≤ 1000 → (max w.toNat 1 - out.length) ≤ m → Ev (fun k => figures_raw.l0 k 0 w out) (strOfNums ((out ++ List.replicate (max w.toNat 1 - out.length) 48).reverse)) := by
  have hx : mx w 1 = ((max w.toNat 1 : Nat) : Int) := by unfold mx; split <;> omega
  induction m with
  | zero =>
    intro out ho hm
    refine Ev.up ?_
    simp only [figures_raw.l0, hx]
    refine Ev.neg (by omega) (Ev.neg (by omega) (Ev.bind (rev_is out (by omega)) ?_))
    rw [show max w.toNat 1 - out.length = 0 by omega, List.replicate_zero, List.append_nil]
    exact Ev.now _
  | succ m ih =>
    intro out ho hm
    by_cases h : out.length < max w.toNat 1
    · refine Ev.up ?_
      simp only [figures_raw.l0, hx]
      have w1 : IntKind.u64.wrap (Int.tdiv 0 10) = 0 := by decide
      have w2 : (48 + Int.tmod 0 10) % 256 = 48 := by decide
      rw [w1, w2]
      refine Ev.neg (by omega) (Ev.pos (by omega) (Ev.pos (by omega) ?_))
      have := ih (out ++ [48]) (by simp; omega) (by simp; omega)
      rw [snoc_rep, show max w.toNat 1 - (out ++ [(48 : Int)]).length + 1 = max w.toNat 1 - out.length by simp; omega] at this
      exact this
    · exact ih out ho (by omega)
theorem raw_l0 (w : Int) (hw : 0 ≤ w ∧ w ≤ 100) (n : Nat) : ∀ out : List Int, n < 18446744073709551616 → out.length + (digs n).length ≤ 200 →
    Ev (fun k => figures_raw.l0 k (n : Int) w out) (strOfNums ((out ++ digs n ++ List.replicate (max w.toNat 1 - (out ++ digs n).length) 48).reverse)) := by
  induction n using Nat.strongRecOn with
  | ind n ih =>
    intro out hn ho
    by_cases h : n = 0
    · subst h
      rw [digs_zero, List.append_nil]
      exact raw_pad w (by omega) _ out (by omega) (Nat.le_refl _)
    · have e := digs_pos (show 0 < n by omega)
      refine Ev.up ?_
      simp only [figures_raw.l0]
      refine Ev.pos (by omega) (Ev.pos (by omega) ?_)
      have w1 : IntKind.u64.wrap (Int.tdiv (n : Int) 10) = ((n / 10 : Nat) : Int) := by rw [tdiv_is, if_neg (by omega), wrap_u64]; omega
      have w2 : (48 + Int.tmod (n : Int) 10) % 256 = 48 + (n : Int) % 10 := by rw [tmod_is, if_neg (by omega)]; omega
      rw [w1, w2]
      have := ih (n / 10) (by omega) (out ++ [48 + (n : Int) % 10]) (by omega) (by rw [e] at ho; simp at ho ⊢; omega)
      rw [show out ++ [48 + (n : Int) % 10] ++ digs (n / 10) = out ++ digs n by rw [e]; simp] at this
      exact this
theorem raw_is (n : Nat) (w : Int) (hn : n < 18446744073709551616) (hw : 0 ≤ w ∧ w ≤ 100) : Ev (fun k => figures_raw.f k (n : Int) w) (strOfNums (rawV n w.toNat)) := by
  have l := digs_len n 20 (by omega)
  have := raw_l0 w hw n [] hn (by simp; omega)
  rw [List.nil_append, List.reverse_append, List.reverse_replicate] at this
  exact this
/-- The text of a number with its sign. -/
def putV (n : Int) (w : Nat) : List Int := if n < 0 then 45 :: rawV (-n).toNat w else rawV n.toNat w
theorem put_is (n w : Int) (hn : I64 n) (hw : 0 ≤ w ∧ w ≤ 20) : Ev (fun k => figures_Put.f k n w) (strOfNums (putV n w.toNat), none) := by
  unfold I64 at hn
  unfold figures_Put.f
  refine Ev.neg (by omega) ?_
  rw [decide_eq_false (by omega)]
  refine Ev.up ?_
  simp only [figures_Put.j0, Bool.false_eq_true, if_false]
  unfold putV
  refine Ev.ite (fun h => ?_) (fun h => ?_)
  · rw [if_pos h, show IntKind.u64.wrap (-IntKind.u64.wrap n) = (((-n).toNat : Nat) : Int) by rw [wrap_u64, wrap_u64]; omega]
    refine Ev.bind (raw_is (-n).toNat w (by omega) (by omega)) (Ev.pos ?_ ?_)
    · rw [son_size, rawV_len]
      have := digs_len (-n).toNat 20 (by omega)
      omega
    · rw [show (⟨#[45]⟩ : ByteArray) = strOfNums [45] from rfl, son_append]
      exact Ev.now _
  · rw [if_neg h, show IntKind.u64.wrap n = ((n.toNat : Nat) : Int) by rw [wrap_u64]; omega]
    exact Ev.bind (raw_is n.toNat w (by omega) (by omega)) (Ev.now _)
/-- The text of a week's day. -/
def wtext (y w d : Int) : List Int := putV y 4 ++ ([45, 87] ++ (putV w 2 ++ ([45] ++ putV d 1)))
theorem putV_len (n : Int) (w : Nat) (hn : I64 n) (hw : w ≤ 20) : (putV n w).length ≤ 30 := by
  unfold I64 at hn
  have hd := digs_len n.natAbs 20 (by have : (10 : Nat) ^ 20 = 100000000000000000000 := by decide
                                      omega)
  unfold putV
  split
  · rw [show n.natAbs = (-n).toNat by omega] at hd
    rw [List.length_cons, rawV_len]; omega
  · rw [show n.natAbs = n.toNat by omega] at hd
    rw [rawV_len]; omega
theorem son_week (a b c : List Int) : (((strOfNums a ++ (⟨#[45, 87]⟩ : ByteArray)) ++ strOfNums b) ++ (⟨#[45]⟩ : ByteArray)) ++ strOfNums c = strOfNums (a ++ ([45, 87] ++ (b ++ ([45] ++ c)))) := by
  rw [show (⟨#[45, 87]⟩ : ByteArray) = strOfNums [45, 87] from rfl, show (⟨#[45]⟩ : ByteArray) = strOfNums [45] from rfl, son_append, son_append, son_append, son_append]
  simp only [List.append_assoc]
theorem wput_is (y w d : Int) (hy : I64 y) (hw : I64 w) (hd : I64 d) : Ev (fun k => week_put.f k y w d) (strOfNums (wtext y w d), none) := by
  unfold week_put.f
  have l1 := putV_len y 4 hy (by decide)
  have l2 := putV_len w 2 hw (by decide)
  have l3 := putV_len d 1 hd (by decide)
  refine Ev.bind (put_is y 4 hy (by decide)) (Ev.pos rfl (Ev.bind (put_is w 2 hw (by decide)) (Ev.pos rfl (Ev.bind (put_is d 1 hd (by decide)) (Ev.pos rfl ?_)))))
  show Ev (fun k => if (strOfNums (putV y 4)).size + 2 ≤ 9223372036854775807 then (if (strOfNums (putV y 4)).size + 2 + (strOfNums (putV w 2)).size ≤ 9223372036854775807 then (if (strOfNums (putV y 4)).size + 2 + (strOfNums (putV w 2)).size + 1 ≤ 9223372036854775807 then (if (strOfNums (putV y 4)).size + 2 + (strOfNums (putV w 2)).size + 1 + (strOfNums (putV d 1)).size ≤ 9223372036854775807 then (some ((((strOfNums (putV y 4) ++ (⟨#[45, 87]⟩ : ByteArray)) ++ strOfNums (putV w 2)) ++ (⟨#[45]⟩ : ByteArray)) ++ strOfNums (putV d 1), none)) else (none)) else (none)) else (none)) else (none)) _
  simp only [son_size]
  refine Ev.pos (by omega) (Ev.pos (by omega) (Ev.pos (by omega) (Ev.pos (by omega) (Ev.cast (Ev.now _) ?_))))
  rw [son_week]; rfl
/-- What is left of a text from a place on: nothing behind an error. -/
def leftV (l : List Int) (i : Nat) (e : Option Int) : List Int := if e.isNone = true then l.drop i else []
theorem leftV_none (l : List Int) (i : Nat) : leftV l i none = l.drop i := rfl
theorem leftV_byt {l : List Int} (h : Byt l) (i : Nat) (e : Option Int) : Byt (leftV l i e) := by
  unfold leftV; split
  · exact h.drop i
  · intro x hx; cases hx
theorem leftV_len (l : List Int) (i : Nat) (e : Option Int) : (leftV l i e).length ≤ l.length := by
  unfold leftV; split
  · simp
  · simp
theorem srest_is (l : List Int) (i : Nat) (e : Option Int) (hi : i ≤ l.length) : scan_Scanner_string_rest.f (strOfNums l) i e = some (strOfNums (leftV l i e), strOfNums l, (i : Int), e) := by
  unfold scan_Scanner_string_rest.f
  cases e with
  | none =>
    rw [if_pos (show (none : Option Int).isNone = true from rfl), if_pos (by omega), if_pos (by rw [son_size]; omega), Int.toNat_natCast, son_cut]; rfl
  | some c => rfl
theorem sclone_is (l : List Int) (hl : l.length ≤ 140737488351232) : strings_Clone.f (strOfNums l) = some (strOfNums l) := by
  unfold strings_Clone.f stringslite_Clone.f
  rw [if_pos (by rw [son_size]; omega)]; rfl
theorem stake_is (l : List Int) (i : Nat) (e : Option Int) (n : Nat) (hi : i ≤ l.length) (hl : l.length ≤ 140737488351232) (hn : n ≤ (leftV l i e).length) :
    scan_Scanner_string_take.f (strOfNums l) i e n = some (strOfNums ((leftV l i e).take n), strOfNums l, ((i + n : Nat) : Int), e) := by
  have hb := leftV_len l i e
  unfold scan_Scanner_string_take.f
  rw [srest_is l i e hi]
  simp only [Option.bind_some]
  rw [if_pos (by omega), if_pos (by rw [son_size]; omega), Int.toNat_natCast, son_first, sclone_is _ (by rw [List.length_take]; omega)]
  by_cases h : n = 0
  · subst h; rfl
  · rw [if_pos (by omega)]
    show some (_, _, wrap64 ((i : Int) + (n : Int)), _) = _
    have hn2 : i + n ≤ l.length ∨ n = 0 := by
      unfold leftV at hn; split at hn
      · rw [List.length_drop] at hn; omega
      · simp at hn; omega
    rw [wr (by omega)]
    congr 1
theorem speek_is (l : List Int) (hb : Byt l) (i : Nat) (e : Option Int) (hi : i ≤ l.length) : scan_Scanner_string_Peek.f (strOfNums l) i e = some ((leftV l i e).headD 0, decide (leftV l i e ≠ []), strOfNums l, (i : Int), e) := by
  unfold scan_Scanner_string_Peek.f
  rw [srest_is l i e hi]
  simp only [Option.bind_some]
  have hb2 := leftV_byt hb i e
  generalize leftV l i e = r at *
  cases r with
  | nil => rw [if_pos (by rw [son_toList]; rfl)]; rfl
  | cons x r =>
    rw [if_neg (by rw [son_toList]; simp), if_pos (by rw [son_size]; simp)]
    have := bt_at_son hb2 (i := 0) (by simp)
    rw [show bt (strOfNums (x :: r)) 0 = x from this]
    simp
/-- Does a byte come? -/
def comesV (r : List Int) (c : Int) : Bool := r.head? == some c
theorem sTake_is (l : List Int) (hb : Byt l) (i : Nat) (e : Option Int) (c : Int) (hi : i ≤ l.length) (hl : l.length ≤ 140737488351232) :
    scan_Scanner_string_Take.f (strOfNums l) i e c = some (comesV (leftV l i e) c, strOfNums l, (if comesV (leftV l i e) c = true then ((i + 1 : Nat) : Int) else (i : Int)), e) := by
  unfold scan_Scanner_string_Take.f
  rw [speek_is l hb i e hi]
  simp only [Option.bind_some]
  have ht := fun h => stake_is l i e 1 hi hl h
  generalize leftV l i e = r at *
  cases r with
  | nil => rfl
  | cons x r =>
    rw [if_pos (by simp)]
    unfold comesV
    by_cases h : x = c
    · subst h
      rw [if_pos (show (x :: r).headD 0 = x from rfl)]
      rw [show scan_Scanner_string_take.f (strOfNums l) (↑i) e 1 = _ from ht (by simp)]
      simp
    · rw [if_neg (show ¬ (x :: r).headD 0 = c from h)]
      have : ((x :: r).head? == some c) = false := by simpa using h
      rw [this]; rfl
theorem tw_take {p : Int → Bool} (r : List Int) : r.take (r.takeWhile p).length = r.takeWhile p := (List.prefix_iff_eq_take.mp (List.takeWhile_prefix p)).symm
theorem tw_len {p : Int → Bool} (r : List Int) : (r.takeWhile p).length ≤ r.length := (List.takeWhile_prefix p).length_le
theorem sErr_is (s : ByteArray) (i : Int) (e : Option Int) : scan_Scanner_string_Err.f s i e = some (e, s, i, e) := rfl
theorem sLeft_is (l : List Int) (i : Nat) (e : Option Int) (hi : i ≤ l.length) : scan_Scanner_string_Left.f (strOfNums l) i e = some (((leftV l i e).length : Int), strOfNums l, (i : Int), e) := by
  unfold scan_Scanner_string_Left.f
  rw [srest_is l i e hi]
  simp only [Option.bind_some, son_size]
/-- The error at the end. -/
def endV (l : List Int) (i : Nat) (e : Option Int) : Option Int := match e with | some c => some c | none => if i < l.length then some 2 else none
theorem sEnd_is (l : List Int) (i : Nat) (e : Option Int) (hi : i ≤ l.length) : scan_Scanner_string_End.f (strOfNums l) i e = some (endV l i e, strOfNums l, (i : Int), e) := by
  unfold scan_Scanner_string_End.f
  rw [sErr_is]
  cases e with
  | some c => rfl
  | none =>
    simp only [Option.bind_some]
    rw [if_pos (show (none : Option Int).isNone = true from rfl), sLeft_is l i none hi]
    simp only [Option.bind_some, leftV_none, List.length_drop]
    unfold endV
    by_cases h : i < l.length
    · rw [if_pos (by omega)]; simp only [if_pos h]
    · rw [if_neg (by omega)]; simp only [if_neg h]
theorem is_is (c : Int) : figures_Is.f c = some (decide (figb c)) := by
  unfold figures_Is.f
  split
  · congr 1; exact decide_eq_decide.mpr ⟨fun q => ⟨by omega, q⟩, fun q => q.2⟩
  · congr 1; exact (decide_eq_false (fun q => by unfold figb at q; omega)).symm
theorem mn_nat (a : Nat) (m : Int) (hm : 0 ≤ m) : mn (a : Int) m = ((min m.toNat a : Nat) : Int) := by unfold mn; split <;> omega
theorem run_l0 (s : ByteArray) (m : Int) (hm : 0 ≤ m) (hs : s.size ≤ 140737488351232) (f : Nat) : ∀ i : Nat, i + f = min m.toNat s.size → Ev (fun k => figures_run.l0 k s m i) ((runG s i f : Nat) : Int) := by
  induction f with
  | zero =>
    intro i hi
    refine Ev.up ?_
    simp only [figures_run.l0, mn_nat _ _ hm, runG]
    exact Ev.neg (by omega) (Ev.now _)
  | succ f ih =>
    intro i hi
    refine Ev.up ?_
    simp only [figures_run.l0, mn_nat _ _ hm, is_is, Option.bind_some]
    refine Ev.pos (by omega) (Ev.pos (by omega) (Ev.pos (by omega) (Ev.ite (fun h => ?_) (fun h => ?_))))
    · rw [wr (n := (i : Int) + 1) (by omega)]
      unfold runG
      rw [if_pos (of_decide_eq_true h)]
      exact ih (i + 1) (by omega)
    · unfold runG
      rw [if_neg (fun q => h (decide_eq_true q))]
      exact Ev.now _
theorem run_is (s : ByteArray) (m : Int) (hm : 0 ≤ m) (hs : s.size ≤ 140737488351232) : Ev (fun k => figures_run.f k s m) ((runV s m.toNat : Nat) : Int) := by
  unfold figures_run.f
  exact run_l0 s m hm hs _ 0 (by omega)
theorem value_l0 (s : ByteArray) (L : Int) (hL : 100 ≤ L ∧ L ≤ 18446744073709551615) (hs : s.size ≤ 140737488351232) (hf : ∀ i : Nat, i < s.size → figb (bt s i)) (m : Nat) : ∀ i : Nat, i + m = s.size → nv s i ≤ L →
    Ev (fun k => figures_value.l0 k s L (nv s i) (s.size : Int) i) (if nv s s.size > L then (0, some 5) else (nv s s.size, none)) := by
  induction m with
  | zero =>
    intro i hi hv
    rw [show s.size = i by omega]
    refine Ev.up ?_
    simp only [figures_value.l0]
    rw [if_neg (by omega)]
    exact Ev.neg (by omega) (Ev.now _)
  | succ m ih =>
    intro i hi hv
    have hd := hf i (by omega)
    unfold figb at hd
    have h0 := nv_nonneg s i (fun j hj => hf j (by omega))
    have w1 : (bt s i - 48) % 256 = bt s i - 48 := by omega
    have w2 : IntKind.u64.wrap (Int.tdiv (IntKind.u64.wrap (L - (bt s i - 48))) 10) = (L - (bt s i - 48)) / 10 := by rw [wrap_u64 (L - _), tdiv_is, if_neg (by omega), wrap_u64]; omega
    refine Ev.up ?_
    simp only [figures_value.l0, w1, w2]
    refine Ev.pos (by omega) (Ev.pos (by omega) (Ev.pos (by omega) (Ev.ite (fun h => ?_) (fun h => ?_))))
    · have hm : nv s (i + 1) ≤ nv s s.size := nv_mono s (fun j hj => hf j hj) (by omega)
      simp only [nv] at hm
      rw [if_pos (by omega)]
      exact Ev.now _
    · have w3 : IntKind.u64.wrap (IntKind.u64.wrap (nv s i * 10) + (bt s i - 48)) = nv s (i + 1) := by simp only [nv]; rw [wrap_u64, wrap_u64]; omega
      rw [w3, wr (n := (i : Int) + 1) (by omega)]
      exact ih (i + 1) (by omega) (by simp only [nv]; omega)
theorem value_is (s : ByteArray) (L : Int) (hL : 100 ≤ L ∧ L ≤ 18446744073709551615) (hs : s.size ≤ 140737488351232) (hf : ∀ i : Nat, i < s.size → figb (bt s i)) :
    Ev (fun k => figures_value.f k s L) (if nv s s.size > L then (0, some 5) else (nv s s.size, none)) := by
  unfold figures_value.f
  have := value_l0 s L hL hs hf s.size 0 (by omega) (by simp only [nv]; omega)
  simpa [nv] using this
theorem runV_figs (s : ByteArray) (m : Nat) : ∀ i : Nat, i < runV s m → figb (bt s i) := fun i hi => runG_figs s _ 0 i (by omega) hi
/-- What the figures that a text begins with come to. -/
def takeV (s : ByteArray) (least most L : Int) : Int × Int × Option Int :=
  if least < 1 ∨ least > most ∨ most > 20 then (0, 0, some 1)
  else if (runV s most.toNat : Int) < least then (0, 0, some 2)
  else if nv s (runV s most.toNat) > L then (0, 0, some 5)
  else (nv s (runV s most.toNat), runV s most.toNat, none)
theorem take_is (s : ByteArray) (least most L : Int) (hL : 100 ≤ L ∧ L ≤ 18446744073709551615) (hs : s.size ≤ 140737488351232) : Ev (fun k => figures_take.f k s least most L) (takeV s least most L) := by
  unfold figures_take.f takeV
  have bad : (least < 1 ∨ least > most ∨ most > 20) → Ev (fun k => figures_take.j0 k s least most L true) (if least < 1 ∨ least > most ∨ most > 20 then (0, 0, some 1) else if (runV s most.toNat : Int) < least then (0, 0, some 2) else if nv s (runV s most.toNat) > L then (0, 0, some 5) else (nv s (runV s most.toNat), ((runV s most.toNat : Nat) : Int), none)) := by
    intro h
    rw [if_pos h]
    refine Ev.up ?_
    simp only [figures_take.j0, if_true]
    exact Ev.now _
  refine Ev.ite (fun h => bad (Or.inl h)) (fun h1 => Ev.ite (fun h => bad (Or.inr (Or.inl h))) (fun h2 => ?_))
  by_cases h3 : most > 20
  · rw [decide_eq_true h3]; exact bad (Or.inr (Or.inr h3))
  · rw [decide_eq_false h3, if_neg (by omega)]
    refine Ev.up ?_
    simp only [figures_take.j0, Bool.false_eq_true, if_false]
    refine Ev.bind (run_is s most (by omega) hs) (Ev.ite (fun h => ?_) (fun h => ?_))
    · rw [if_pos h]; exact Ev.now _
    · rw [if_neg h]
      have rb := runV_bd s most.toNat
      have hx : (s.extract 0 ((runV s most.toNat : Nat) : Int).toNat).size = runV s most.toNat := size_extract s _ rb.2
      have hv := value_is (s.extract 0 ((runV s most.toNat : Nat) : Int).toNat) L hL (by rw [hx]; omega) (by
        rw [hx]
        intro i hi
        rw [Int.toNat_natCast, bt_extract s _ i hi rb.2]
        exact runV_figs s _ i hi)
      rw [hx] at hv
      rw [show nv (s.extract 0 ((runV s most.toNat : Nat) : Int).toNat) (runV s most.toNat) = nv s (runV s most.toNat) from nv_extract s _ rb.2 _ (Nat.le_refl _)] at hv
      refine Ev.pos (by omega) (Ev.pos (by omega) (Ev.bind hv ?_))
      by_cases hg : nv s (runV s most.toNat) > L
      · rw [if_pos hg, if_pos hg]; exact Ev.now _
      · rw [if_neg hg, if_neg hg]; exact Ev.now _
theorem sgoing_is (s : ByteArray) (i : Int) (e : Option Int) : scan_Scanner_string_going.f s i e = some (e.isNone, s, i, e) := by
  unfold scan_Scanner_string_going.f
  cases e <;> rfl
theorem tTake_is (s : ByteArray) (least most : Int) (hs : s.size ≤ 140737488351232) : Ev (fun k => figures_Take.f k s least most) (takeV s least most 9223372036854775807) := by
  unfold figures_Take.f
  refine Ev.bind (take_is s least most 9223372036854775807 (by omega) hs) (Ev.cast (Ev.now _) ?_)
  have hI : I64 (takeV s least most 9223372036854775807).1 := by
    unfold takeV I64
    have := nv_nonneg s (runV s most.toNat) (runV_figs s _)
    repeat' split
    all_goals (simp only; omega)
  rw [wrap64_id hI]
/-- Figures taken: the number, the place behind them, the error. -/
def sfigV (l : List Int) (i : Nat) (e : Option Int) (least most : Int) : Int × Int × Option Int :=
  match e with
  | some c => (0, i, some c)
  | none => match takeV (strOfNums (l.drop i)) least most 9223372036854775807 with
    | (n, m, none) => (n, i + m, none)
    | (_, _, some q) => (0, i, some q)
theorem takeV_le (s : ByteArray) (least most L : Int) : 0 ≤ (takeV s least most L).2.1 ∧ (takeV s least most L).2.1 ≤ s.size := by
  have := runV_bd s most.toNat
  unfold takeV
  repeat' split
  all_goals (simp only; omega)
theorem sFigures_is (l : List Int) (hb : Byt l) (i : Nat) (e : Option Int) (least most : Int) (hi : i ≤ l.length) (hl : l.length ≤ 140737488351232) :
    Ev (fun k => scan_Scanner_string_Figures.f k (strOfNums l) i e least most) ((sfigV l i e least most).1, strOfNums l, (sfigV l i e least most).2.1, (sfigV l i e least most).2.2) := by
  unfold scan_Scanner_string_Figures.f
  refine Ev.bindc (sgoing_is _ _ _) ?_
  cases e with
  | some c => exact Ev.neg (by simp) (Ev.now _)
  | none =>
    refine Ev.pos rfl (Ev.bindc (srest_is l i none hi) ?_)
    simp only [leftV_none]
    refine Ev.bind (tTake_is _ least most (by rw [son_size, List.length_drop]; omega)) ?_
    unfold sfigV
    have hle := takeV_le (strOfNums (l.drop i)) least most 9223372036854775807
    rw [son_size, List.length_drop] at hle
    rcases hq : takeV (strOfNums (l.drop i)) least most 9223372036854775807 with ⟨n, m, q⟩
    rw [hq] at hle
    simp only at hle
    cases q with
    | some q => exact Ev.neg (by simp) (Ev.now _)
    | none =>
      obtain ⟨m', rfl⟩ : ∃ m' : Nat, m = (m' : Int) := ⟨m.toNat, by omega⟩
      refine Ev.pos rfl (Ev.bindc (stake_is l i none m' hi hl (by rw [leftV_none, List.length_drop]; omega)) (Ev.cast (Ev.now _) ?_))
      show (n, strOfNums l, ((i + m' : Nat) : Int), (none : Option Int)) = (n, strOfNums l, (i : Int) + m', none)
      rw [show ((i + m' : Nat) : Int) = (i : Int) + m' by omega]
theorem comes_len {r : List Int} {c : Int} (h : comesV r c = true) : 1 ≤ r.length := by
  unfold comesV at h
  cases r with
  | nil => simp at h
  | cons x r => simp
/-- The figures' bytes. -/
def figset : List Int := [48, 49, 50, 51, 52, 53, 54, 55, 56, 57]
theorem figset_mem (x : Int) : x ∈ figset ↔ 48 ≤ x ∧ x ≤ 57 := by
  unfold figset
  simp only [List.mem_cons, List.mem_nil_iff, or_false]
  omega
def figrun (r : List Int) : List Int := r.takeWhile (fun x => decide (x ∈ figset))
theorem runG_son (t : List Int) (hb : Byt t) (m : Nat) : ∀ i : Nat, i + m = t.length → runG (strOfNums t) i m = i + (figrun (t.drop i)).length := by
  induction m with
  | zero =>
    intro i hi
    rw [List.drop_of_length_le (by omega)]; rfl
  | succ m ih =>
    intro i hi
    have hx := bt_at_son hb (i := i) (by omega)
    unfold runG
    rw [hx, List.drop_eq_getElem_cons (by omega)]
    unfold figrun
    rw [List.takeWhile_cons]
    by_cases h : figb t[i]
    · rw [if_pos h, if_pos (by exact decide_eq_true ((figset_mem _).mpr h)), ih (i + 1) (by omega)]
      unfold figrun
      rw [List.length_cons]; omega
    · rw [if_neg h, if_neg (by simpa using fun q => h ((figset_mem _).mp q))]; rfl
theorem figrun_figs (t : List Int) : ∀ x ∈ figrun t, 48 ≤ x ∧ x ≤ 57 := by
  intro x hx
  have := List.all_eq_true.mp (List.all_takeWhile (p := fun x => decide (x ∈ figset)) (l := t)) x hx
  exact (figset_mem x).mp (of_decide_eq_true this)
theorem figrun_len (t : List Int) : (figrun t).length ≤ t.length := tw_len t
theorem figrun_take (t : List Int) : t.take (figrun t).length = figrun t := tw_take t
/-- The number of a row of figures. -/
def numV (r : List Int) : Int := nv (strOfNums r) r.length
theorem fig_byt {r : List Int} (h : ∀ x ∈ r, 48 ≤ x ∧ x ≤ 57) : Byt r := fun x hx => by have := h x hx; omega
theorem fig_bt {r : List Int} (h : ∀ x ∈ r, 48 ≤ x ∧ x ≤ 57) (i : Nat) (hi : i < r.length) : figb (bt (strOfNums r) i) := by
  rw [bt_at_son (fig_byt h) hi]
  exact h _ (List.getElem_mem hi)
theorem numV_nonneg {r : List Int} (h : ∀ x ∈ r, 48 ≤ x ∧ x ≤ 57) : 0 ≤ numV r := nv_nonneg _ _ (fun i hi => fig_bt h i hi)
theorem numV_lt {r : List Int} (h : ∀ x ∈ r, 48 ≤ x ∧ x ≤ 57) : numV r < 10 ^ r.length := nv_lt _ _ (fun i hi => fig_bt h i hi)
theorem figrun_self {r : List Int} (h : ∀ x ∈ r, 48 ≤ x ∧ x ≤ 57) : figrun r = r := by
  unfold figrun
  apply tw_all
  intro x hx
  exact decide_eq_true ((figset_mem x).mpr (h x hx))
theorem figrun_pre {r : List Int} (h : ∀ x ∈ r, 48 ≤ x ∧ x ≤ 57) (rest : List Int) (hs : ¬ (48 ≤ rest.headD 0 ∧ rest.headD 0 ≤ 57)) : figrun (r ++ rest) = r := by
  unfold figrun
  rw [List.takeWhile_append_of_pos (fun x hx => decide_eq_true ((figset_mem x).mpr (h x hx)))]
  cases rest with
  | nil => simp
  | cons x rest =>
    rw [List.takeWhile_cons, if_neg (by simpa using fun q => hs ((figset_mem x).mp q)), List.append_nil]
theorem numV_pre {r : List Int} (h : ∀ x ∈ r, 48 ≤ x ∧ x ≤ 57) (rest : List Int) (hb : Byt rest) : nv (strOfNums (r ++ rest)) r.length = numV r := by
  have hbr := fig_byt h
  have hba : Byt (r ++ rest) := fun x hx => (List.mem_append.mp hx).elim (hbr x) (hb x)
  unfold numV
  rw [nv_son _ hba _ (by simp), nv_son _ hbr _ (Nat.le_refl _), List.take_left, List.take_length]
theorem takeV_pre {r : List Int} (h : ∀ x ∈ r, 48 ≤ x ∧ x ≤ 57) (rest : List Int) (hb : Byt rest) (hs : ¬ (48 ≤ rest.headD 0 ∧ rest.headD 0 ≤ 57)) (least most : Int) (h1 : 1 ≤ least) (h2 : least ≤ most) (h3 : most ≤ 18) (h4 : least ≤ r.length) (h5 : (r.length : Int) ≤ most) :
    takeV (strOfNums (r ++ rest)) least most 9223372036854775807 = (numV r, (r.length : Int), none) := by
  have hba : Byt (r ++ rest) := fun x hx => (List.mem_append.mp hx).elim (fig_byt h x) (hb x)
  have hr : runV (strOfNums (r ++ rest)) most.toNat = r.length := by
    rw [runV_min, son_size, runG_son _ hba _ 0 (by omega), List.drop_zero, figrun_pre h rest hs]; omega
  have hlt := numV_lt h
  have hp : (10 : Int) ^ r.length ≤ 10 ^ 18 := by exact_mod_cast Nat.pow_le_pow_right (by decide) (show r.length ≤ 18 by omega)
  have e18 : (10 : Int) ^ 18 = 1000000000000000000 := by decide
  unfold takeV
  rw [if_neg (by omega), hr, if_neg (by omega), numV_pre h rest hb, if_neg (by omega)]
theorem numV_raw (n w : Nat) : numV (rawV n w) = n := by unfold numV; exact (raw_read n w).2
theorem sfig_pre (l : List Int) (i : Nat) {r : List Int} (h : ∀ x ∈ r, 48 ≤ x ∧ x ≤ 57) (rest : List Int) (hl : l.drop i = r ++ rest) (hb : Byt rest) (hs : ¬ (48 ≤ rest.headD 0 ∧ rest.headD 0 ≤ 57)) (least most : Int) (h1 : 1 ≤ least) (h2 : least ≤ most) (h3 : most ≤ 18) (h4 : least ≤ r.length) (h5 : (r.length : Int) ≤ most) :
    sfigV l i none least most = (numV r, ((i + r.length : Nat) : Int), none) := by
  unfold sfigV
  simp only [hl]
  rw [takeV_pre h rest hb hs least most h1 h2 h3 h4 h5]
  simp only []
  congr 2
theorem takeV_bd (s : ByteArray) (least most L : Int) (hL : 0 ≤ L) : 0 ≤ (takeV s least most L).1 ∧ (takeV s least most L).1 ≤ L := by
  unfold takeV
  have := nv_nonneg s (runV s most.toNat) (runV_figs s _)
  repeat' split
  all_goals (simp only; omega)
/-- A text that is a week's day. -/
structure IsW (l : List Int) (y w d : Int) : Prop where
  hy : -99999 ≤ y ∧ y ≤ 99999
  hw : 0 ≤ w ∧ w ≤ 99
  hd : 0 ≤ d ∧ d ≤ 9
  ht : l = wtext y w d
theorem wtext_byt {y w d : Int} : Byt (wtext y w d) := by
  have pb : ∀ (n : Int) (m : Nat), Byt (putV n m) := by
    intro n m x hx
    unfold putV at hx
    split at hx
    · rcases List.mem_cons.mp hx with e | hx
      · omega
      · have := rawV_figs _ _ x hx; omega
    · have := rawV_figs _ _ x hx; omega
  intro x hx
  unfold wtext at hx
  simp only [List.mem_append, List.mem_cons, List.mem_nil_iff, or_false] at hx
  rcases hx with h | (h | h) | h | h | h
  · exact pb _ _ x h
  · omega
  · omega
  · exact pb _ _ x h
  · omega
  · exact pb _ _ x h
theorem wtext_split {y w d : Int} (hy : -99999 ≤ y ∧ y ≤ 99999) (hw : 0 ≤ w ∧ w ≤ 99) (hd : 0 ≤ d ∧ d ≤ 9) :
    wtext y w d = (if y < 0 then [45] else []) ++ (rawV y.natAbs 4 ++ (45 :: 87 :: (rawV w.toNat 2 ++ (45 :: rawV d.toNat 1)))) ∧ 4 ≤ (rawV y.natAbs 4).length ∧ (rawV y.natAbs 4).length ≤ 5 ∧ (rawV w.toNat 2).length = 2 ∧ (rawV d.toNat 1).length = 1 := by
  have a := digs_len y.natAbs 5 (by have : (10 : Nat) ^ 5 = 100000 := by decide
                                    omega)
  have b := digs_len w.toNat 2 (by have : (10 : Nat) ^ 2 = 100 := by decide
                                   omega)
  have c := digs_len d.toNat 1 (by have : (10 : Nat) ^ 1 = 10 := by decide
                                   omega)
  refine ⟨?_, by rw [rawV_len]; omega, by rw [rawV_len]; omega, by rw [rawV_len]; omega, by rw [rawV_len]; omega⟩
  unfold wtext putV
  rw [if_neg (show ¬ w < 0 by omega), if_neg (show ¬ d < 0 by omega)]
  by_cases h : y < 0
  · rw [if_pos h, if_pos h, show (-y).toNat = y.natAbs by omega]; rfl
  · rw [if_neg h, if_neg h, show y.toNat = y.natAbs by omega]; rfl
theorem wparse_on {y w d : Int} (hy : -99999 ≤ y ∧ y ≤ 99999) (hw : 0 ≤ w ∧ w ≤ 99) (hd : 0 ≤ d ∧ d ≤ 9) : Ev (fun k => week_Parse.f k (strOfNums (wtext y w d))) (wdayV y w d) := by
  obtain ⟨hl, y1, y2, w1, d1⟩ := wtext_split hy hw hd
  have hb := wtext_byt (y := y) (w := w) (d := d)
  have fY := rawV_figs y.natAbs 4
  have fW := rawV_figs w.toNat 2
  have fD := rawV_figs d.toNat 1
  have nY := numV_raw y.natAbs 4
  have nW := numV_raw w.toNat 2
  have nD := numV_raw d.toNat 1
  generalize hlt : wtext y w d = l at *
  generalize rawV y.natAbs 4 = Y at *
  generalize rawV w.toNat 2 = W at *
  generalize rawV d.toNat 1 = D at *
  obtain ⟨i, hi⟩ : ∃ i : Nat, i = if y < 0 then 1 else 0 := ⟨_, rfl⟩
  have hib : i ≤ 1 := by rw [hi]; split <;> omega
  have hdi : l.drop i = Y ++ (45 :: 87 :: (W ++ (45 :: D))) := by
    rw [hl, hi]; split <;> rfl
  have hlen : l.length = i + Y.length + 2 + 2 + 1 + 1 := by
    rw [hl, hi]
    split <;> (simp only [List.length_append, List.length_cons, List.length_nil]; omega)
  have hd2 : l.drop (i + Y.length) = 45 :: 87 :: (W ++ (45 :: D)) := by rw [← List.drop_drop, hdi, List.drop_left]
  have hd3 : l.drop (i + Y.length + 1) = 87 :: (W ++ (45 :: D)) := by rw [← List.drop_drop, hd2]; rfl
  have hd4 : l.drop (i + Y.length + 1 + 1) = W ++ (45 :: D) := by rw [← List.drop_drop, hd3]; rfl
  have hd5 : l.drop (i + Y.length + 1 + 1 + W.length) = 45 :: D := by rw [← List.drop_drop, hd4, List.drop_left]
  have hd6 : l.drop (i + Y.length + 1 + 1 + W.length + 1) = D := by rw [← List.drop_drop, hd5]; rfl
  have bt_ : ∀ n, Byt (l.drop n) := fun n => hb.drop n
  have c0 : comesV l 45 = decide (y < 0) := by
    rw [hl]
    by_cases h : y < 0
    · rw [if_pos h, decide_eq_true h]; rfl
    · rw [if_neg h, decide_eq_false h]
      unfold comesV
      cases Y with
      | nil => simp at y1
      | cons x Y =>
        have := fY x (List.mem_cons_self ..)
        simp only [List.nil_append, List.cons_append, List.head?_cons]
        rw [beq_eq_false_iff_ne]
        intro q
        have := Option.some.inj q
        omega
  unfold week_Parse.f
  refine Ev.bindc (show scan_New_string.f (strOfNums l) = some (strOfNums l, ((0 : Nat) : Int), none) from rfl) (Ev.bindc (sTake_is l hb 0 none 45 (by omega) (by omega)) ?_)
  simp only [leftV_none, List.drop_zero, c0]
  rw [show (if decide (y < 0) = true then ((0 + 1 : Nat) : Int) else ((0 : Nat) : Int)) = (i : Int) by by_cases q : y < 0 <;> simp [hi, q]]
  have hf := sFigures_is l hb i none 4 5 (by omega) (by omega)
  rw [sfig_pre l i fY _ hdi (by rw [← hd2]; exact bt_ _) (by show ¬ (48 ≤ (45 : Int) ∧ (45 : Int) ≤ 57); omega) 4 5 (by decide) (by decide) (by decide) (by omega) (by omega)] at hf
  refine Ev.bind hf ?_
  have j0 : Ev (fun k => week_Parse.j0 k (strOfNums l) y (strOfNums l) ((i + Y.length : Nat) : Int) none) (wdayV y w d) := by
    refine Ev.up ?_
    simp only [week_Parse.j0]
    have t1 := sTake_is l hb (i + Y.length) none 45 (by omega) (by omega)
    rw [leftV_none, hd2] at t1
    have t2 := sTake_is l hb (i + Y.length + 1) none 87 (by omega) (by omega)
    rw [leftV_none, hd3] at t2
    refine Ev.bindc t1 (Ev.pos rfl (Ev.bindc t2 ?_))
    refine Ev.up ?_
    simp only [week_Parse.j1]
    have f2 := sFigures_is l hb (i + Y.length + 1 + 1) none 2 2 (by omega) (by omega)
    rw [sfig_pre l _ fW _ hd4 (by rw [← hd5]; exact bt_ _) (by show ¬ (48 ≤ (45 : Int) ∧ (45 : Int) ≤ 57); omega) 2 2 (by decide) (by decide) (by decide) (by omega) (by omega)] at f2
    have t3 := sTake_is l hb (i + Y.length + 1 + 1 + W.length) none 45 (by omega) (by omega)
    rw [leftV_none, hd5] at t3
    have f3 := sFigures_is l hb (i + Y.length + 1 + 1 + W.length + 1) none 1 1 (by omega) (by omega)
    rw [sfig_pre l _ fD [] (by rw [hd6, List.append_nil]) (fun x hx => by cases hx) (by show ¬ (48 ≤ (0 : Int) ∧ (0 : Int) ≤ 57); omega) 1 1 (by decide) (by decide) (by decide) (by omega) (by omega)] at f3
    have e := sEnd_is l (i + Y.length + 1 + 1 + W.length + 1 + D.length) none (by omega)
    refine Ev.neg (by simp [comesV]) (Ev.bind f2 (Ev.bindc t3 (Ev.pos rfl (Ev.bind f3 (Ev.bindc e (Ev.pos ?_ ?_))))))
    · unfold endV; rw [if_neg (by omega)]; rfl
    · simp only []
      rw [nW, nD, show ((w.toNat : Nat) : Int) = w by omega, show ((d.toNat : Nat) : Int) = d by omega]
      refine Ev.bind (wput_is y w d (by unfold I64; omega) (by unfold I64; omega) (by unfold I64; omega)) (Ev.pos rfl (Ev.pos (by rw [hlt]) (Ev.bindc (wday_is y w d) (Ev.now _))))
  by_cases h : y < 0
  · refine Ev.pos (decide_eq_true h) ?_
    simp only []
    rw [nY, show wrap64 (-((y.natAbs : Nat) : Int)) = y by rw [wr (by omega)]; omega]
    exact j0
  · refine Ev.neg (by simpa using h) ?_
    simp only []
    rw [nY, show ((y.natAbs : Nat) : Int) = y by omega]
    exact j0
theorem sfigV_some (l : List Int) (i : Nat) (e : Option Int) (least most : Int) (hi : i ≤ l.length) (hm : 0 ≤ most) : ∃ (n : Int) (j : Nat) (e' : Option Int), sfigV l i e least most = (n, (j : Int), e') ∧ j ≤ l.length ∧ 0 ≤ n ∧ n < 10 ^ most.toNat := by
  have hp : (0 : Int) < 10 ^ most.toNat := Int.pow_pos (by decide)
  cases e with
  | some c => exact ⟨0, i, some c, rfl, hi, by decide, hp⟩
  | none =>
    have hle := takeV_le (strOfNums (l.drop i)) least most 9223372036854775807
    have hv := takeV_bd (strOfNums (l.drop i)) least most 9223372036854775807 (by decide)
    have hn : (takeV (strOfNums (l.drop i)) least most 9223372036854775807).1 < 10 ^ most.toNat := by
      have b := runV_bd (strOfNums (l.drop i)) most.toNat
      have h1 := nv_lt (strOfNums (l.drop i)) (runV (strOfNums (l.drop i)) most.toNat) (runV_figs _ _)
      have h2 : (10 : Int) ^ (runV (strOfNums (l.drop i)) most.toNat) ≤ 10 ^ most.toNat := by exact_mod_cast Nat.pow_le_pow_right (by decide) b.1
      unfold takeV
      repeat' split
      all_goals (simp only; omega)
    rw [son_size, List.length_drop] at hle
    unfold sfigV
    rcases hq : takeV (strOfNums (l.drop i)) least most 9223372036854775807 with ⟨n, m, q⟩
    rw [hq] at hle hv hn
    simp only at hle hv hn
    cases q with
    | some q => exact ⟨0, i, some q, rfl, hi, by decide, hp⟩
    | none => exact ⟨n, i + m.toNat, none, by simp only; congr 2; omega, by omega, hv.1, hn⟩
theorem wparse_or (l : List Int) (hb : Byt l) (hl : l.length ≤ 1000) : ∃ v, Ev (fun k => week_Parse.f k (strOfNums l)) v ∧ (v = (0, some 2) ∨ ∃ y w d, IsW l y w d ∧ v = wdayV y w d) := by
  have bad : ∀ {g : Nat → Option (Int × Option Int)}, Ev g (0, some 2) → ∃ v, Ev g v ∧ (v = (0, some 2) ∨ ∃ y w d, IsW l y w d ∧ v = wdayV y w d) := fun h => ⟨_, h, Or.inl rfl⟩
  have j1 : ∀ (y : Int) (j : Nat) (e : Option Int) (b : Bool), -99999 ≤ y → y ≤ 99999 → j ≤ l.length → ∃ v, Ev (fun k => week_Parse.j1 k (strOfNums l) y b (strOfNums l) (j : Int) e) v ∧ (v = (0, some 2) ∨ ∃ y w d, IsW l y w d ∧ v = wdayV y w d) := by
    intro y j e b hy1 hy2 hj
    cases b with
    | true =>
      refine bad (Ev.up ?_)
      simp only [week_Parse.j1, if_true]
      exact Ev.now _
    | false =>
      have f2 := sFigures_is l hb j e 2 2 hj (by omega)
      obtain ⟨w, j2, e2, q2, hj2, hw0, hw1⟩ := sfigV_some l j e 2 2 hj (by decide)
      rw [q2] at f2
      have t3 := sTake_is l hb j2 e2 45 hj2 (by omega)
      cases hc : comesV (leftV l j2 e2) 45 with
      | false =>
        rw [hc] at t3
        refine bad (Ev.up ?_)
        simp only [week_Parse.j1, Bool.false_eq_true, if_false]
        exact Ev.bind f2 (Ev.bindc t3 (Ev.neg (by simp) (Ev.now _)))
      | true =>
        rw [hc] at t3
        have hj3 : j2 + 1 ≤ l.length := by
          have := comes_len hc
          unfold leftV at this
          split at this
          · rw [List.length_drop] at this; omega
          · simp at this
        have f3 := sFigures_is l hb (j2 + 1) e2 1 1 hj3 (by omega)
        obtain ⟨d, j4, e4, q4, hj4, hd0, hd1⟩ := sfigV_some l (j2 + 1) e2 1 1 hj3 (by decide)
        rw [q4] at f3
        have en_ := sEnd_is l j4 e4 hj4
        have p2 : (10 : Int) ^ (2 : Int).toNat = 100 := by decide
        have p1 : (10 : Int) ^ (1 : Int).toNat = 10 := by decide
        rw [p2] at hw1
        rw [p1] at hd1
        have head : ∀ {v : Int × Option Int}, Ev (fun k => if (endV l j4 e4).isNone = true then ((week_put.f k y w d).bind fun bt266 => (if bt266.2.isNone = true then (if bt266.1.toList = (strOfNums l).toList then ((week_Day.f y w d).bind fun bt269 => (some (bt269.1, bt269.2))) else (some (0, some 2))) else (some (0, some 2)))) else (some (0, some 2))) v → Ev (fun k => week_Parse.j1 k (strOfNums l) y false (strOfNums l) (j : Int) e) v := by
          intro v h
          refine Ev.up ?_
          simp only [week_Parse.j1, Bool.false_eq_true, if_false]
          exact Ev.bind f2 (Ev.bindc t3 (Ev.pos rfl (Ev.bind f3 (Ev.bindc en_ h))))
        by_cases he : (endV l j4 e4).isNone = true
        · have hp := wput_is y w d (by unfold I64; omega) (by unfold I64; omega) (by unfold I64; omega)
          by_cases ht : (strOfNums (wtext y w d)).toList = (strOfNums l).toList
          · have hlt := son_inj wtext_byt hb ht
            refine ⟨wdayV y w d, head (Ev.pos he (Ev.bind hp (Ev.pos rfl (Ev.pos ht (Ev.bindc (wday_is y w d) (Ev.now _)))))), Or.inr ⟨y, w, d, ⟨⟨hy1, hy2⟩, ⟨hw0, by omega⟩, ⟨hd0, by omega⟩, hlt.symm⟩, rfl⟩⟩
          · exact bad (head (Ev.pos he (Ev.bind hp (Ev.pos rfl (Ev.neg ht (Ev.now _))))))
        · exact bad (head (Ev.neg he (Ev.now _)))
  have j0 : ∀ (y : Int) (j : Nat) (e : Option Int), -99999 ≤ y → y ≤ 99999 → j ≤ l.length → ∃ v, Ev (fun k => week_Parse.j0 k (strOfNums l) y (strOfNums l) (j : Int) e) v ∧ (v = (0, some 2) ∨ ∃ y w d, IsW l y w d ∧ v = wdayV y w d) := by
    intro y j e hy1 hy2 hj
    have t1 := sTake_is l hb j e 45 hj (by omega)
    cases hc : comesV (leftV l j e) 45 with
    | false =>
      rw [hc] at t1
      obtain ⟨v, hv, ho⟩ := j1 y j e true hy1 hy2 hj
      refine ⟨v, Ev.up ?_, ho⟩
      simp only [week_Parse.j0]
      exact Ev.bindc t1 (Ev.neg (by simp) hv)
    | true =>
      rw [hc] at t1
      have hj3 : j + 1 ≤ l.length := by
        have := comes_len hc
        unfold leftV at this
        split at this
        · rw [List.length_drop] at this; omega
        · simp at this
      have t2 := sTake_is l hb (j + 1) e 87 hj3 (by omega)
      cases hc2 : comesV (leftV l (j + 1) e) 87 with
      | false =>
        rw [hc2] at t2
        obtain ⟨v, hv, ho⟩ := j1 y (j + 1) e true hy1 hy2 hj3
        refine ⟨v, Ev.up ?_, ho⟩
        simp only [week_Parse.j0]
        exact Ev.bindc t1 (Ev.pos rfl (Ev.bindc t2 hv))
      | true =>
        rw [hc2] at t2
        have hj4 : j + 1 + 1 ≤ l.length := by
          have := comes_len hc2
          unfold leftV at this
          split at this
          · rw [List.length_drop] at this; omega
          · simp at this
        obtain ⟨v, hv, ho⟩ := j1 y (j + 1 + 1) e false hy1 hy2 hj4
        refine ⟨v, Ev.up ?_, ho⟩
        simp only [week_Parse.j0]
        exact Ev.bindc t1 (Ev.pos rfl (Ev.bindc t2 hv))
  have t0 := sTake_is l hb 0 none 45 (by omega) (by omega)
  obtain ⟨i, hi, hil⟩ : ∃ i : Nat, (if comesV (leftV l 0 none) 45 = true then ((0 + 1 : Nat) : Int) else ((0 : Nat) : Int)) = (i : Int) ∧ i ≤ l.length := by
    by_cases hc : comesV (leftV l 0 none) 45 = true
    · rw [if_pos hc]
      have := comes_len hc
      rw [leftV_none, List.drop_zero] at this
      exact ⟨1, rfl, this⟩
    · rw [if_neg hc]; exact ⟨0, rfl, by omega⟩
  rw [hi] at t0
  have f1 := sFigures_is l hb i none 4 5 hil (by omega)
  obtain ⟨n, j, e, q, hj, hn0, hn1⟩ := sfigV_some l i none 4 5 hil (by decide)
  have p5 : (10 : Int) ^ (5 : Int).toNat = 100000 := by decide
  rw [q] at f1
  rw [p5] at hn1
  by_cases hc : comesV (leftV l 0 none) 45 = true
  · obtain ⟨v, hv, ho⟩ := j0 (-n) j e (by omega) (by omega) hj
    refine ⟨v, ?_, ho⟩
    unfold week_Parse.f
    refine Ev.bindc (show scan_New_string.f (strOfNums l) = some (strOfNums l, ((0 : Nat) : Int), none) from rfl) (Ev.bindc t0 (Ev.bind f1 (Ev.pos hc ?_)))
    simp only []
    rw [show wrap64 (-n) = -n from wr (by omega)]
    exact hv
  · obtain ⟨v, hv, ho⟩ := j0 n j e (by omega) (by omega) hj
    refine ⟨v, ?_, ho⟩
    unfold week_Parse.f
    exact Ev.bindc (show scan_New_string.f (strOfNums l) = some (strOfNums l, ((0 : Nat) : Int), none) from rfl) (Ev.bindc t0 (Ev.bind f1 (Ev.neg hc hv)))
theorem ris_l0 (c : Int) (m : Nat) : ∀ x : Int, 48 ≤ x → x + m = 58 → (48 ≤ c → x ≤ c) → Ev (fun k => horologeref02_Is.l0 k c x) (decide (figb c)) := by
  induction m with
  | zero =>
    intro x h1 h2 h3
    refine Ev.up ?_
    simp only [horologeref02_Is.l0]
    rw [decide_eq_false (fun q => by unfold figb at q; omega)]
    exact Ev.neg (by omega) (Ev.now _)
  | succ m ih =>
    intro x h1 h2 h3
    refine Ev.up ?_
    simp only [horologeref02_Is.l0]
    refine Ev.pos (by omega) (Ev.ite (fun h => ?_) (fun h => ?_))
    · rw [decide_eq_true (show figb c from ⟨by omega, by omega⟩)]; exact Ev.now _
    · rw [show (x + 1) % 256 = x + 1 by omega]
      exact ih (x + 1) (by omega) (by omega) (by omega)
theorem ris_is (c : Int) : Ev (fun k => horologeref02_Is.f k c) (decide (figb c)) := ris_l0 c 10 48 (by decide) (by decide) (by omega)
theorem many_l0 (s : ByteArray) (hs : s.size ≤ 140737488351232) (f : Nat) : ∀ i : Nat, i + f = s.size → Ev (fun k => horologeref02_Many.l0 k s i) ((runG s i f : Nat) : Int) := by
  induction f with
  | zero =>
    intro i hi
    refine Ev.up ?_
    simp only [horologeref02_Many.l0, runG]
    rw [← hi]
    exact Ev.neg (by omega) (Ev.cast (Ev.now _) (by omega))
  | succ f ih =>
    intro i hi
    refine Ev.up ?_
    simp only [horologeref02_Many.l0]
    refine Ev.pos (by omega) (Ev.pos (by omega) (Ev.bind (ris_is _) (Ev.ite (fun h => ?_) (fun h => ?_))))
    · rw [wr (n := (i : Int) + 1) (by omega)]
      unfold runG
      rw [if_pos (of_decide_eq_true h)]
      exact ih (i + 1) (by omega)
    · unfold runG
      rw [if_neg (fun q => h (decide_eq_true q))]
      exact Ev.now _
theorem many_is (s : ByteArray) (hs : s.size ≤ 140737488351232) : Ev (fun k => horologeref02_Many.f k s) ((runG s 0 s.size : Nat) : Int) := many_l0 s hs s.size 0 (by omega)
theorem rbig_l0 (s : ByteArray) (hs : s.size ≤ 100) (hf : ∀ i : Nat, i < s.size → figb (bt s i)) (m : Nat) : ∀ (i : Nat) (b : Bool × List Int), i + m = s.size → Is b (nv s i) (4 + 6 * i) →
    ∃ r, Ev (fun k => horologeref02_Big.l0 k s i b.1 b.2) r ∧ Is r (nv s s.size) 1000 := by
  induction m with
  | zero =>
    intro i b hi hb
    refine ⟨b, Ev.up ?_, ?_⟩
    · simp only [horologeref02_Big.l0]
      exact Ev.neg (by omega) (Ev.now _)
    · rw [← hi]; exact hb.mono (by omega)
  | succ m ih =>
    intro i b hi hb
    have hd := hf i (by omega)
    unfold figb at hd
    obtain ⟨t, t1, t2⟩ := Of_is 10 (by unfold I64; omega)
    obtain ⟨p, p1, p2⟩ := Times_is hb t2 (by omega) (by decide)
    obtain ⟨d, d1, d2⟩ := Of_is (bt s i - 48) (by unfold I64; omega)
    obtain ⟨q, q1, q2⟩ := Plus_is p2 d2 (by omega) (by decide)
    obtain ⟨r, r1, r2⟩ := ih (i + 1) q (by omega) (by simp only [nv]; exact q2.mono (by omega))
    refine ⟨r, Ev.up ?_, r2⟩
    simp only [horologeref02_Big.l0]
    rw [show (bt s i - 48) % 256 = bt s i - 48 by omega, wr (n := (i : Int) + 1) (by omega)]
    exact Ev.pos (by omega) (Ev.bind t1 (Ev.bind p1 (Ev.pos (by omega) (Ev.bind d1 (Ev.bind q1 r1)))))
theorem rbig_is (s : ByteArray) (hs : s.size ≤ 100) (hf : ∀ i : Nat, i < s.size → figb (bt s i)) : ∃ r, Ev (fun k => horologeref02_Big.f k s) r ∧ Is r (nv s s.size) 1000 := by
  obtain ⟨z, z1, z2⟩ := Of_is 0 (by unfold I64; omega)
  obtain ⟨r, r1, r2⟩ := rbig_l0 s hs hf s.size 0 z (by omega) (by simpa [nv] using z2)
  exact ⟨r, Ev.bind z1 r1, r2⟩
/-- An answer with an error's number in the place of an error. -/
def en (e : Option Int) : Int := match e with | none => 0 | some c => c
def rtakeV (s : ByteArray) (least most : Int) : Int × Int × Int :=
  if least < 1 ∨ least > most ∨ most > 20 then (0, 0, 1)
  else if (runV s most.toNat : Int) < least then (0, 0, 2)
  else if nv s (runV s most.toNat) > 9223372036854775807 then (0, 0, 5)
  else (nv s (runV s most.toNat), runV s most.toNat, 0)
theorem rtake_is (s : ByteArray) (least most : Int) (hs : s.size ≤ 140737488351232) : Ev (fun k => horologeref02_Take.f k s least most) (rtakeV s least most) := by
  unfold horologeref02_Take.f rtakeV
  have bad : (least < 1 ∨ least > most ∨ most > 20) → Ev (fun k => horologeref02_Take.j0 k s least most true) (if least < 1 ∨ least > most ∨ most > 20 then (0, 0, 1) else if (runV s most.toNat : Int) < least then (0, 0, 2) else if nv s (runV s most.toNat) > 9223372036854775807 then (0, 0, 5) else (nv s (runV s most.toNat), ((runV s most.toNat : Nat) : Int), 0)) := by
    intro h
    rw [if_pos h]
    refine Ev.up ?_
    simp only [horologeref02_Take.j0, if_true]
    exact Ev.now _
  refine Ev.ite (fun h => bad (Or.inl h)) (fun h1 => Ev.ite (fun h => bad (Or.inr (Or.inl h))) (fun h2 => ?_))
  by_cases h3 : most > 20
  · rw [decide_eq_true h3]; exact bad (Or.inr (Or.inr h3))
  · rw [decide_eq_false h3, if_neg (by omega)]
    have rb := runV_bd s most.toNat
    have hmain : Ev (fun k => horologeref02_Take.j1 k s least ((runV s most.toNat : Nat) : Int)) (if (runV s most.toNat : Int) < least then (0, 0, 2) else if nv s (runV s most.toNat) > 9223372036854775807 then (0, 0, 5) else (nv s (runV s most.toNat), ((runV s most.toNat : Nat) : Int), 0)) := by
      refine Ev.up ?_
      simp only [horologeref02_Take.j1]
      refine Ev.ite (fun h => ?_) (fun h => ?_)
      · rw [if_pos h]; exact Ev.now _
      · rw [if_neg h]
        have hx : (s.extract 0 ((runV s most.toNat : Nat) : Int).toNat).size = runV s most.toNat := size_extract s _ rb.2
        obtain ⟨r, r1, r2⟩ := rbig_is (s.extract 0 ((runV s most.toNat : Nat) : Int).toNat) (by rw [hx]; omega) (by
          rw [hx]
          intro i hi
          rw [Int.toNat_natCast, bt_extract s _ i hi rb.2]
          exact runG_figs s _ 0 i (by omega) hi)
        rw [hx] at r2
        rw [show nv (s.extract 0 ((runV s most.toNat : Nat) : Int).toNat) (runV s most.toNat) = nv s (runV s most.toNat) from nv_extract s _ rb.2 _ (Nat.le_refl _)] at r2
        have hsm := Small_is r2 (by decide)
        have h0 := nv_nonneg s (runV s most.toNat) (fun i hi => runG_figs s _ 0 i (by omega) hi)
        refine Ev.pos (by omega) (Ev.pos (by omega) (Ev.bind r1 (Ev.bind hsm ?_)))
        by_cases hg : nv s (runV s most.toNat) > 9223372036854775807
        · rw [smallV_out (by unfold I64; omega), if_pos hg]; exact Ev.neg (by decide) (Ev.now _)
        · rw [smallV_in (by unfold I64; omega), if_neg hg]; exact Ev.pos rfl (Ev.now _)
    have hr := runV_min s most.toNat
    refine Ev.up ?_
    simp only [horologeref02_Take.j0, Bool.false_eq_true, if_false]
    refine Ev.bind (many_is s hs) (Ev.ite (fun h => ?_) (fun h => ?_))
    · have e : ((runV s most.toNat : Nat) : Int) = most := by omega
      exact Ev.congr (fun k => by rw [e]) hmain
    · rw [show ((runG s 0 s.size : Nat) : Int) = ((runV s most.toNat : Nat) : Int) by omega]
      exact hmain
theorem rwhole_is (s : ByteArray) (least most : Int) (hs : s.size ≤ 140737488351232) : Ev (fun k => horologeref02_Whole.f k s least most) ((wholeV s least most).1, en (wholeV s least most).2) := by
  unfold horologeref02_Whole.f
  refine Ev.bind (rtake_is s least most hs) ?_
  unfold rtakeV wholeV
  by_cases h1 : least < 1 ∨ least > most ∨ most > 20
  · simp only [if_pos h1]; exact Ev.now _
  · simp only [if_neg h1]
    by_cases h2 : (runV s most.toNat : Int) < least
    · simp only [if_pos h2]; exact Ev.now _
    · simp only [if_neg h2]
      by_cases h3 : nv s (runV s most.toNat) > 9223372036854775807
      · simp only [if_pos h3]; exact Ev.now _
      · simp only [if_neg h3, if_true]
        refine Ev.ite (fun h => ?_) (fun h => ?_)
        · rw [if_pos (by omega)]; exact Ev.now _
        · rw [if_neg (by omega)]; exact Ev.now _
theorem rmonday_l0 (n : Int) (hn : -10000000 ≤ n ∧ n ≤ 10000000) (m : Nat) : ∀ t : Int, n ≤ t → t + m = fth n → Ev (fun k => horologeref06_Monday.l0 k t) (fth n - 3) := by
  have b := fth_bd n
  induction m with
  | zero =>
    intro t h1 h2
    refine Ev.up ?_
    simp only [horologeref06_Monday.l0]
    refine Ev.bindc (rweekday_is t) (Ev.pos (by omega) ?_)
    rw [show wrap64 (t - 3) = t - 3 from wr (by omega)]
    exact Ev.cast (Ev.now _) (by omega)
  | succ m ih =>
    intro t h1 h2
    have ht : ¬ (t + 3) % 7 + 1 = 4 := by unfold fth at h2 b; omega
    refine Ev.up ?_
    simp only [horologeref06_Monday.l0]
    refine Ev.bindc (rweekday_is t) (Ev.neg ht ?_)
    rw [show wrap64 (t + 1) = t + 1 from wr (by omega)]
    exact ih (t + 1) (by omega) (by omega)
theorem rmonday_is (y : Int) (h : -20001 ≤ y ∧ y ≤ 20001) : Ev (fun k => horologeref06_Monday.f k y) (mon y) := by
  unfold horologeref06_Monday.f
  have b := S_bd y h
  have f := fth_bd (S y)
  refine Ev.bind (rstart_is y (by omega) (by omega)) ?_
  rw [mon_fth]
  exact rmonday_l0 (S y) (by omega) (fth (S y) - S y).toNat (S y) (by omega) (by omega)
theorem rweeks_l1 (y many n : Int) (hy : -20000 ≤ y ∧ y ≤ 20000) (hn : -10000000 ≤ n ∧ n ≤ 10000000) (hm : 0 ≤ many ∧ many ≤ 100) {r : Int}
    (hr : Ev (fun k => if fth n < S (y + 1) then horologeref06_Weeks.l0 k y (many + 1) (n + 7) else horologeref06_Weeks.l0 k y many (n + 7)) r) (m : Nat) :
    ∀ t : Int, n ≤ t → t + m = fth n → Ev (fun k => horologeref06_Weeks.l1 k y many n t) r := by
  have b := fth_bd n
  induction m with
  | zero =>
    intro t h1 h2
    have e : t = fth n := by omega
    refine Ev.up ?_
    simp only [horologeref06_Weeks.l1]
    refine Ev.bindc (rweekday_is t) (Ev.pos (by omega) ?_)
    rw [show wrap64 (y + 1) = y + 1 from wr (by omega), show wrap64 (many + 1) = many + 1 from wr (by omega), show wrap64 (n + 7) = n + 7 from wr (by omega), e]
    exact Ev.bind (rstart_is _ (by omega) (by omega)) hr
  | succ m ih =>
    intro t h1 h2
    have ht : ¬ (t + 3) % 7 + 1 = 4 := by unfold fth at h2 b; omega
    refine Ev.up ?_
    simp only [horologeref06_Weeks.l1]
    refine Ev.bindc (rweekday_is t) (Ev.neg ht ?_)
    rw [show wrap64 (t + 1) = t + 1 from wr (by omega)]
    exact ih (t + 1) (by omega) (by omega)
theorem rweeks_l0 (y : Int) (hy : -20000 ≤ y ∧ y ≤ 20000) (m : Nat) : ∀ i : Int, 0 ≤ i → i + m = cntV y → Ev (fun k => horologeref06_Weeks.l0 k y i (S y + 7 * i)) (cntV y) := by
  have c := cnt_fth y
  have b0 := S_bd y (by omega)
  have b1 := S_bd (y + 1) (by omega)
  have f0 := fth_bd (S y)
  have f1 := fth_bd (S (y + 1))
  induction m with
  | zero =>
    intro i h0 hi
    have e : i = cntV y := by omega
    have g := fth_add (S y) i
    have stop : ∀ n : Int, S (y + 1) ≤ n → Ev (fun k => horologeref06_Weeks.l0 k y i n) (cntV y) := by
      intro n hn
      refine Ev.up ?_
      simp only [horologeref06_Weeks.l0]
      rw [show wrap64 (y + 1) = y + 1 from wr (by omega)]
      exact Ev.bind (rstart_is _ (by omega) (by omega)) (Ev.neg (by omega) (Ev.cast (Ev.now _) (by rw [e])))
    by_cases h : S (y + 1) ≤ S y + 7 * i
    · exact stop _ h
    · refine Ev.up ?_
      simp only [horologeref06_Weeks.l0]
      rw [show wrap64 (y + 1) = y + 1 from wr (by omega)]
      refine Ev.bind (rstart_is _ (by omega) (by omega)) (Ev.pos (by omega) ?_)
      have fb := fth_bd (S y + 7 * i)
      refine rweeks_l1 y i (S y + 7 * i) hy (by omega) (by omega) ?_ (fth (S y + 7 * i) - (S y + 7 * i)).toNat (S y + 7 * i) (by omega) (by omega)
      exact Ev.neg (by omega) (stop _ (by omega))
  | succ m ih =>
    intro i h0 hi
    have g := fth_add (S y) i
    have fb := fth_bd (S y + 7 * i)
    have hlt : fth (S y + 7 * i) < S (y + 1) := by omega
    refine Ev.up ?_
    simp only [horologeref06_Weeks.l0]
    rw [show wrap64 (y + 1) = y + 1 from wr (by omega)]
    refine Ev.bind (rstart_is _ (by omega) (by omega)) (Ev.pos (by omega) ?_)
    refine rweeks_l1 y i (S y + 7 * i) hy (by omega) (by omega) ?_ (fth (S y + 7 * i) - (S y + 7 * i)).toNat (S y + 7 * i) (by omega) (by omega)
    refine Ev.pos hlt ?_
    have := ih (i + 1) (by omega) (by omega)
    rw [show S y + 7 * (i + 1) = S y + 7 * i + 7 by omega] at this
    exact this
theorem rweeks_is (y : Int) (hy : -20000 ≤ y ∧ y ≤ 20000) : Ev (fun k => horologeref06_Weeks.f k y) (cntV y) := by
  unfold horologeref06_Weeks.f
  have c := cnt_fth y
  refine Ev.bind (rstart_is y (by omega) (by omega)) ?_
  have := rweeks_l0 y hy (cntV y).toNat 0 (by omega) (by omega)
  rw [show S y + 7 * 0 = S y by omega] at this
  exact this
theorem rfirst_is : Ev (fun k => horologeref05_First.f k) (-4371587) := by
  unfold horologeref05_First.f
  exact Ev.bind (rstart_is _ (by decide) (by decide)) (Ev.cast (Ev.now _) (by decide))
theorem rlast_is : Ev (fun k => horologeref05_Last.f k) 2932896 := by
  unfold horologeref05_Last.f
  exact Ev.bind (rstart_is _ (by decide) (by decide)) (Ev.cast (Ev.now _) (by kernel_rfl))
theorem rwday_is (y w d : Int) : Ev (fun k => horologeref06_Day.f k y w d) ((wdayV y w d).1, en (wdayV y w d).2) := by
  unfold horologeref06_Day.f wdayV
  have bad : ¬ wkOk y → Ev (fun k => horologeref06_Day.j0 k y w d true) (((if wkOk y then (if dayOk y w d then (if -4371587 ≤ mon y + 7 * (w - 1) + d - 1 ∧ mon y + 7 * (w - 1) + d - 1 ≤ 2932896 then (mon y + 7 * (w - 1) + d - 1, none) else (0, some 13)) else (0, some 1)) else (0, some 13)) : Int × Option Int).1, en ((if wkOk y then (if dayOk y w d then (if -4371587 ≤ mon y + 7 * (w - 1) + d - 1 ∧ mon y + 7 * (w - 1) + d - 1 ≤ 2932896 then (mon y + 7 * (w - 1) + d - 1, none) else (0, some 13)) else (0, some 1)) else (0, some 13)) : Int × Option Int).2) := by
    intro h
    rw [if_neg h]
    refine Ev.up ?_
    simp only [horologeref06_Day.j0, if_true]
    exact Ev.now _
  refine Ev.ite (fun q => bad (fun z => by unfold wkOk at z; omega)) (fun q => ?_)
  by_cases q2 : y > 10000
  · rw [decide_eq_true q2]; exact bad (fun z => by unfold wkOk at z; omega)
  · rw [decide_eq_false q2]
    have hy : wkOk y := ⟨by omega, by omega⟩
    rw [if_pos hy]
    have j1b : ¬ dayOk y w d → Ev (fun k => horologeref06_Day.j1 k y w d true) (((if dayOk y w d then (if -4371587 ≤ mon y + 7 * (w - 1) + d - 1 ∧ mon y + 7 * (w - 1) + d - 1 ≤ 2932896 then (mon y + 7 * (w - 1) + d - 1, none) else (0, some 13)) else (0, some 1)) : Int × Option Int).1, en ((if dayOk y w d then (if -4371587 ≤ mon y + 7 * (w - 1) + d - 1 ∧ mon y + 7 * (w - 1) + d - 1 ≤ 2932896 then (mon y + 7 * (w - 1) + d - 1, none) else (0, some 13)) else (0, some 1)) : Int × Option Int).2) := by
      intro h
      rw [if_neg h]
      refine Ev.up ?_
      simp only [horologeref06_Day.j1, if_true]
      exact Ev.now _
    refine Ev.up ?_
    simp only [horologeref06_Day.j0, Bool.false_eq_true, if_false]
    refine Ev.ite (fun z => j1b (fun o => by unfold dayOk at o; omega)) (fun z1 => Ev.bind (rweeks_is y (by omega)) (Ev.ite (fun z => j1b (fun o => by unfold dayOk at o; omega)) (fun z2 => Ev.ite (fun z => j1b (fun o => by unfold dayOk at o; omega)) (fun z3 => ?_))))
    by_cases z4 : d > 7
    · rw [decide_eq_true z4]; exact j1b (fun o => by unfold dayOk at o; omega)
    · rw [decide_eq_false z4]
      have ho : dayOk y w d := ⟨by omega, by omega, by omega, by omega⟩
      rw [if_pos ho]
      refine Ev.up ?_
      simp only [horologeref06_Day.j1, Bool.false_eq_true, if_false]
      refine Ev.bind (rmonday_is y (by omega)) (Ev.bind rfirst_is ?_)
      rw [wsum y w d hy ho]
      refine Ev.ite (fun g => ?_) (fun g => Ev.bind rlast_is (Ev.ite (fun g2 => ?_) (fun g2 => ?_)))
      · rw [if_neg (by omega)]; exact Ev.now _
      · rw [if_neg (by omega)]; exact Ev.now _
      · rw [if_pos (by omega)]; exact Ev.now _
theorem num_en (e : Option Int) (h : e ≠ some 0) : horologenum_Num.f e = some (en e) := by
  rw [num_is]
  cases e with
  | none => rfl
  | some c =>
    have : c ≠ 0 := fun q => h (by rw [q])
    simp [en, this]
theorem wdayV_err (y w d : Int) : (wdayV y w d).2 ≠ some 0 := by
  unfold wdayV
  repeat' split
  all_goals simp
theorem Ev.same {α : Type} {g : Nat → Option α} {a b : α} (h : Ev g a) (k : Ev g b) : a = b := by
  obtain ⟨m, hm⟩ := h
  obtain ⟨n, hn⟩ := k
  have e1 := hm (max m n) (by omega)
  have e2 := hn (max m n) (by omega)
  rw [e1] at e2
  exact Option.some.inj e2
theorem numV_lv {r : List Int} (h : ∀ x ∈ r, 48 ≤ x ∧ x ≤ 57) : numV r = lv r := by
  unfold numV
  rw [nv_son _ (fig_byt h) _ (Nat.le_refl _), List.take_length]
/-- Figures are the text of their number, with noughts ahead. -/
theorem fig_canon (n : Nat) : ∀ r : List Int, r.length = n → (∀ x ∈ r, 48 ≤ x ∧ x ≤ 57) → (digs (lv r).toNat).length ≤ r.length ∧ 0 ≤ lv r ∧ r = List.replicate (r.length - (digs (lv r).toNat).length) 48 ++ (digs (lv r).toNat).reverse := by
  induction n with
  | zero =>
    intro r hn h
    obtain rfl : r = [] := List.eq_nil_of_length_eq_zero hn
    rw [show lv [] = 0 from rfl, show (0 : Int).toNat = 0 from rfl, digs_zero]
    exact ⟨Nat.le_refl _, by decide, rfl⟩
  | succ n ih =>
    intro r hn h
    obtain ⟨q, d, rfl⟩ : ∃ q d, r = q ++ [d] := by
      rcases List.eq_nil_or_concat r with e | ⟨q, d, e⟩
      · rw [e] at hn; simp at hn
      · exact ⟨q, d, by rw [e]; simp⟩
    have hq : q.length = n := by simp at hn; omega
    obtain ⟨i1, i2, i3⟩ := ih q hq (fun x hx => h x (List.mem_append_left _ hx))
    have hd := h d (List.mem_append_right _ (List.mem_cons_self ..))
    rw [lv_snoc]
    by_cases h0 : lv q * 10 + (d - 48) = 0
    · have hl : lv q = 0 := by omega
      have e : d = 48 := by omega
      rw [hl] at i3
      rw [h0, show (0 : Int).toNat = 0 from rfl, digs_zero]
      rw [show (0 : Int).toNat = 0 from rfl, digs_zero] at i3
      simp only [List.length_nil, Nat.sub_zero, List.reverse_nil, List.append_nil] at i3 ⊢
      refine ⟨Nat.zero_le _, by decide, ?_⟩
      rw [e, List.length_append, show q.length + [(48 : Int)].length = q.length + 1 from rfl, List.replicate_succ', ← i3]
    · rw [show (lv q * 10 + (d - 48)).toNat = (lv q).toNat * 10 + (d - 48).toNat by omega]
      rw [digs_pos (by omega), show ((lv q).toNat * 10 + (d - 48).toNat) / 10 = (lv q).toNat by omega, show (48 : Int) + (((lv q).toNat * 10 + (d - 48).toNat : Nat) : Int) % 10 = d by omega]
      generalize digs (lv q).toNat = D at *
      refine ⟨by simp; omega, by omega, ?_⟩
      rw [List.reverse_cons, ← List.append_assoc, show (q ++ [d]).length - (d :: D).length = q.length - D.length by simp, ← i3]
theorem raw_num {r : List Int} (h : ∀ x ∈ r, 48 ≤ x ∧ x ≤ 57) (w : Nat) (hw : 1 ≤ w) (hl : r.length = w ∨ (w ≤ r.length ∧ r.headD 0 ≠ 48)) : rawV (numV r).toNat w = r := by
  obtain ⟨a, b, c⟩ := fig_canon r.length r rfl h
  rw [numV_lv h]
  unfold rawV
  generalize digs (lv r).toNat = D at *
  rcases hl with hl | ⟨h1, h2⟩
  · rw [show max w 1 - D.length = r.length - D.length by omega]; exact c.symm
  · have e : r.length - D.length = 0 := by
      rcases Nat.eq_zero_or_pos (r.length - D.length) with e | e
      · exact e
      · exfalso
        obtain ⟨m, hm⟩ : ∃ m, r.length - D.length = m + 1 := ⟨r.length - D.length - 1, by omega⟩
        rw [hm, List.replicate_succ] at c
        rw [c] at h2
        exact h2 rfl
    rw [e] at c
    rw [show max w 1 - D.length = 0 by omega]; exact c.symm
theorem figrun_full {r : List Int} (h : (figrun r).length = r.length) : figrun r = r := (List.takeWhile_prefix _).eq_of_length h
theorem run_son {r : List Int} (hb : Byt r) (m : Nat) : runV (strOfNums r) m = min (figrun r).length m := by
  rw [runV_min, son_size, runG_son r hb _ 0 (by omega), List.drop_zero]; omega
theorem whole_figs {r : List Int} (h : ∀ x ∈ r, 48 ≤ x ∧ x ≤ 57) (least most : Int) (h1 : 1 ≤ least) (h2 : least ≤ r.length) (h3 : (r.length : Int) ≤ most) (h4 : most ≤ 18) : wholeV (strOfNums r) least most = (numV r, none) := by
  have hr := run_son (fig_byt h) most.toNat
  rw [figrun_self h] at hr
  have hlt := numV_lt h
  have hp : (10 : Int) ^ r.length ≤ 10 ^ 18 := by exact_mod_cast Nat.pow_le_pow_right (by decide) (show r.length ≤ 18 by omega)
  have e18 : (10 : Int) ^ 18 = 1000000000000000000 := by decide
  have e : runV (strOfNums r) most.toNat = r.length := by omega
  unfold wholeV
  rw [e, son_size, if_neg (by omega), if_neg (by omega), show nv (strOfNums r) r.length = numV r from rfl, if_neg (by omega), if_neg (by omega)]
theorem whole_not {r : List Int} (hb : Byt r) (n : Nat) (hn : r.length = n) (h1 : 1 ≤ n) (h2 : n ≤ 18) (h : figrun r ≠ r) : wholeV (strOfNums r) n n = (0, some 2) := by
  have hr := run_son hb (n : Int).toNat
  have hl := figrun_len r
  have hne : (figrun r).length ≠ r.length := fun q => h (figrun_full q)
  unfold wholeV
  rw [hr, if_neg (by omega), if_pos (by omega)]
/-- A text that is a week's day, without its sign. -/
structure IsT (t Y W D : List Int) : Prop where
  ht : t = Y ++ (45 :: 87 :: (W ++ (45 :: D)))
  fY : ∀ x ∈ Y, 48 ≤ x ∧ x ≤ 57
  fW : ∀ x ∈ W, 48 ≤ x ∧ x ≤ 57
  fD : ∀ x ∈ D, 48 ≤ x ∧ x ≤ 57
  lY : 4 ≤ Y.length ∧ Y.length ≤ 5
  lW : W.length = 2
  lD : D.length = 1
def oddT (Y : List Int) (sg : Int) : Prop := (Y.length = 5 ∧ Y.headD 0 = 48) ∨ (sg < 0 ∧ numV Y = 0)
instance (Y : List Int) (sg : Int) : Decidable (oddT Y sg) := inferInstanceAs (Decidable (_ ∨ _))
def rdayE (y w d : Int) : Int × Int := ((wdayV y w d).1, en (wdayV y w d).2)
theorem rday_end (y w d : Int) : Ev (fun k => (horologeref06_Day.f k y w d).bind fun b => some (b.1, b.2)) (rdayE y w d) := Ev.bind (rwday_is y w d) (Ev.now _)
theorem rj2_bad (t : ByteArray) (sg k : Int) : Ev (fun n => horologeref06_Parse.j2 n t sg k true) (0, 2) := by
  refine Ev.up ?_
  simp only [horologeref06_Parse.j2, if_true]
  exact Ev.now _
theorem rj2_is (t : List Int) (hb : Byt t) (sg : Int) (hs : sg = 1 ∨ sg = -1) (k : Nat) (hk : k = (figrun t).length) (h4 : 4 ≤ k ∧ k ≤ 5) (hl : t.length = k + 6) :
    Ev (fun n => horologeref06_Parse.j2 n (strOfNums t) sg (k : Int) false) (if (figrun ((t.drop (k + 2)).take 2) = (t.drop (k + 2)).take 2 ∧ figrun (t.drop (k + 5)) = t.drop (k + 5)) ∧ ¬ oddT (figrun t) sg then rdayE (sg * numV (figrun t)) (numV ((t.drop (k + 2)).take 2)) (numV (t.drop (k + 5))) else (0, 2)) := by
  have fY := figrun_figs t
  have hY : t.take k = figrun t := by rw [hk]; exact figrun_take t
  have nY := numV_lt fY
  have n0 := numV_nonneg fY
  have p5 : (10 : Int) ^ (figrun t).length ≤ 10 ^ 5 := by exact_mod_cast Nat.pow_le_pow_right (by decide) (show (figrun t).length ≤ 5 by omega)
  have p6 : (10 : Int) ^ 5 = 100000 := by decide
  have w1 : wrap64 ((k : Int) + 2) = ((k + 2 : Nat) : Int) := by rw [wr (by omega)]; rfl
  have w2 : wrap64 ((k : Int) + 4) = ((k + 4 : Nat) : Int) := by rw [wr (by omega)]; rfl
  have w3 : wrap64 ((k : Int) + 5) = ((k + 5 : Nat) : Int) := by rw [wr (by omega)]; rfl
  have hm : wrap64 (sg * numV (figrun t)) = sg * numV (figrun t) := by rcases hs with h | h <;> (rw [h, wr (by omega)])
  have hhead : bt (strOfNums t) 0 = (figrun t).headD 0 := by
    have h0 := bt_at_son hb (i := 0) (by omega)
    rw [show bt (strOfNums t) 0 = bt (strOfNums t) ((0 : Nat) : Int) from rfl, h0]
    rw [← hY]
    cases t with
    | nil => simp at hl
    | cons x t => obtain ⟨m, rfl⟩ : ∃ m, k = m + 1 := ⟨k - 1, by omega⟩
                  rfl
  refine Ev.up ?_
  simp only [horologeref06_Parse.j2, Bool.false_eq_true, if_false, w1, w2, w3, Int.toNat_natCast, son_first, hY, hhead, hm]
  rw [show (strOfNums t).extract (k + 2) (k + 4) = strOfNums ((t.drop (k + 2)).take 2) by rw [son_extract, show k + 4 - (k + 2) = 2 by omega], son_cut]
  simp only [son_size]
  have lW : ((t.drop (k + 2)).take 2).length = 2 := by rw [List.length_take, List.length_drop]; omega
  have lD : (t.drop (k + 5)).length = 1 := by rw [List.length_drop]; omega
  have bW : Byt ((t.drop (k + 2)).take 2) := (hb.drop _).take _
  have bD : Byt (t.drop (k + 5)) := hb.drop _
  generalize (t.drop (k + 2)).take 2 = W at *
  generalize t.drop (k + 5) = D at *
  generalize figrun t = Y at *
  have a1 := rwhole_is (strOfNums Y) 1 5 (by rw [son_size]; omega)
  have a2 := rwhole_is (strOfNums W) 2 2 (by rw [son_size]; omega)
  have a3 := rwhole_is (strOfNums D) 1 1 (by rw [son_size]; omega)
  rw [whole_figs fY 1 5 (by decide) (by omega) (by omega) (by decide)] at a1
  refine Ev.pos (by omega) (Ev.pos (by omega) (Ev.bind a1 (Ev.pos (by omega) (Ev.pos (by omega) (Ev.pos (by omega) (Ev.bind a2 (Ev.pos (by omega) (Ev.pos (by omega) (Ev.bind a3 ?_)))))))))
  by_cases hW : figrun W = W
  · have fW : ∀ x ∈ W, 48 ≤ x ∧ x ≤ 57 := by rw [← hW]; exact figrun_figs W
    have e2 := whole_figs fW 2 2 (by decide) (by omega) (by omega) (by decide)
    rw [e2]
    refine Ev.pos rfl ?_
    by_cases hD : figrun D = D
    · have fD : ∀ x ∈ D, 48 ≤ x ∧ x ≤ 57 := by rw [← hD]; exact figrun_figs D
      have e3 := whole_figs fD 1 1 (by decide) (by omega) (by omega) (by decide)
      rw [e3]
      refine Ev.pos rfl ?_
      have sign : Ev (fun n => if sg < 0 then (if numV Y = 0 then some (0, 2) else ((horologeref06_Day.f n (sg * numV Y) (numV W) (numV D)).bind fun b => some (b.1, b.2))) else ((horologeref06_Day.f n (sg * numV Y) (numV W) (numV D)).bind fun b => some (b.1, b.2))) (if sg < 0 ∧ numV Y = 0 then (0, 2) else rdayE (sg * numV Y) (numV W) (numV D)) := by
        refine Ev.ite (fun h => Ev.ite (fun h2 => ?_) (fun h2 => ?_)) (fun h => ?_)
        · rw [if_pos ⟨h, h2⟩]; exact Ev.now _
        · rw [if_neg (fun q => h2 q.2)]; exact rday_end _ _ _
        · rw [if_neg (fun q => h q.1)]; exact rday_end _ _ _
      by_cases h5 : Y.length = 5 ∧ Y.headD 0 = 48
      · rw [if_neg (fun q => q.2 (Or.inl h5))]
        exact Ev.pos (by omega) (Ev.pos (by omega) (Ev.pos h5.2 (Ev.now _)))
      · have done : (if sg < 0 ∧ numV Y = 0 then ((0, 2) : Int × Int) else rdayE (sg * numV Y) (numV W) (numV D)) = (if (figrun W = W ∧ figrun D = D) ∧ ¬ oddT Y sg then rdayE (sg * numV Y) (numV W) (numV D) else (0, 2)) := by
          by_cases h6 : sg < 0 ∧ numV Y = 0
          · rw [if_pos h6, if_neg (fun q => q.2 (Or.inr h6))]
          · rw [if_neg h6, if_pos ⟨⟨hW, hD⟩, fun q => q.elim h5 h6⟩]
        rw [← done]
        refine Ev.ite (fun q => Ev.pos (by omega) (Ev.neg (fun z => h5 ⟨by omega, z⟩) ?_)) (fun q => ?_)
        · simp only [hm]; exact sign
        · simp only [hm]; exact sign
    · rw [if_neg (fun q => hD q.1.2)]
      have e3 := whole_not bD 1 lD (by decide) (by decide) hD
      rw [show wholeV (strOfNums D) 1 1 = (0, some 2) from e3]
      exact Ev.neg (by decide) (Ev.now _)
  · rw [if_neg (fun q => hW q.1.1)]
    have e2 := whole_not bW 2 lW (by decide) (by decide) hW
    rw [show wholeV (strOfNums W) 2 2 = (0, some 2) from e2]
    exact Ev.neg (by decide) (Ev.now _)
theorem rj1_pass (t Y W D : List Int) (hb : Byt t) (sg : Int) (hs : sg = 1 ∨ sg = -1) (h : IsT t Y W D) (ho : ¬ oddT Y sg) : Ev (fun n => horologeref06_Parse.j1 n (strOfNums t) sg) (rdayE (sg * numV Y) (numV W) (numV D)) := by
  obtain ⟨ht, fY, fW, fD, lY, lW, lD⟩ := h
  have hf : figrun t = Y := by
    rw [ht]
    exact figrun_pre fY _ (by show ¬ (48 ≤ (45 : Int) ∧ (45 : Int) ≤ 57); omega)
  have hlen : t.length = Y.length + 6 := by
    rw [ht]; simp only [List.length_append, List.length_cons]; omega
  have d0 : t.drop Y.length = 45 :: 87 :: (W ++ (45 :: D)) := by rw [ht, List.drop_left]
  have d2 : t.drop (Y.length + 2) = W ++ (45 :: D) := by rw [← List.drop_drop, d0]; rfl
  have d4 : t.drop (Y.length + 4) = 45 :: D := by rw [show Y.length + 4 = Y.length + 2 + W.length by omega, ← List.drop_drop, d2, List.drop_left]
  have d5 : t.drop (Y.length + 5) = D := by rw [show Y.length + 5 = Y.length + 4 + 1 by omega, ← List.drop_drop, d4]; rfl
  have b0 : bt (strOfNums t) ((Y.length : Nat) : Int) = 45 := by
    have h := congrArg List.head? d0
    rw [List.head?_drop, List.getElem?_eq_getElem (by omega)] at h
    rw [bt_at_son hb (by omega)]; exact Option.some.inj h
  have b1 : bt (strOfNums t) ((Y.length + 1 : Nat) : Int) = 87 := by
    have h := congrArg List.head? (show t.drop (Y.length + 1) = 87 :: (W ++ (45 :: D)) by rw [← List.drop_drop, d0]; rfl)
    rw [List.head?_drop, List.getElem?_eq_getElem (by omega)] at h
    rw [bt_at_son hb (by omega)]; exact Option.some.inj h
  have b4 : bt (strOfNums t) ((Y.length + 4 : Nat) : Int) = 45 := by
    have h := congrArg List.head? d4
    rw [List.head?_drop, List.getElem?_eq_getElem (by omega)] at h
    rw [bt_at_son hb (by omega)]; exact Option.some.inj h
  have m := many_is (strOfNums t) (by rw [son_size]; omega)
  rw [son_size, runG_son t hb _ 0 (by omega), List.drop_zero, hf, Nat.zero_add] at m
  have w6 : wrap64 ((Y.length : Int) + 6) = ((Y.length + 6 : Nat) : Int) := by rw [wr (by omega)]; rfl
  have w1 : wrap64 ((Y.length : Int) + 1) = ((Y.length + 1 : Nat) : Int) := by rw [wr (by omega)]; rfl
  have w4 : wrap64 ((Y.length : Int) + 4) = ((Y.length + 4 : Nat) : Int) := by rw [wr (by omega)]; rfl
  refine Ev.up ?_
  simp only [horologeref06_Parse.j1]
  refine Ev.bind m ?_
  simp only [w6, w1, w4, son_size, b0, b1, b4]
  refine Ev.neg (by omega) (Ev.neg (by omega) (Ev.pos (by omega) (Ev.pos (by omega) (Ev.pos (by omega) (Ev.pos trivial (Ev.pos (by omega) (Ev.pos (by omega) (Ev.pos trivial (Ev.pos (by omega) (Ev.pos (by omega) ?_))))))))))
  rw [bne_self_eq_false]
  have j2 := rj2_is t hb sg hs Y.length (by rw [hf]) lY hlen
  rw [hf, d2, d5, show (W ++ 45 :: D).take 2 = W by rw [← lW, List.take_left], if_pos ⟨⟨figrun_self fW, figrun_self fD⟩, ho⟩] at j2
  exact j2
theorem rj1_fail (t : List Int) (hb : Byt t) (hl : t.length ≤ 1000) (sg : Int) (hs : sg = 1 ∨ sg = -1) (h : ∀ Y W D, IsT t Y W D → oddT Y sg) : Ev (fun n => horologeref06_Parse.j1 n (strOfNums t) sg) (0, 2) := by
  have m := many_is (strOfNums t) (by rw [son_size]; omega)
  rw [son_size, runG_son t hb _ 0 (by omega), List.drop_zero, Nat.zero_add] at m
  have hfl := figrun_len t
  obtain ⟨k, hk⟩ : ∃ k, k = (figrun t).length := ⟨_, rfl⟩
  rw [← hk] at m hfl
  have w6 : wrap64 ((k : Int) + 6) = ((k + 6 : Nat) : Int) := by rw [wr (by omega)]; rfl
  have w1 : wrap64 ((k : Int) + 1) = ((k + 1 : Nat) : Int) := by rw [wr (by omega)]; rfl
  have w4 : wrap64 ((k : Int) + 4) = ((k + 4 : Nat) : Int) := by rw [wr (by omega)]; rfl
  refine Ev.up ?_
  simp only [horologeref06_Parse.j1]
  refine Ev.bind m ?_
  simp only [w6, w1, w4, son_size]
  refine Ev.ite (fun _ => rj2_bad _ _ _) (fun g1 => Ev.ite (fun _ => rj2_bad _ _ _) (fun g2 => Ev.ite (fun g3 => ?_) (fun _ => rj2_bad _ _ _)))
  refine Ev.pos (by omega) (Ev.pos (by omega) (Ev.ite (fun g4 => ?_) (fun _ => rj2_bad _ _ _)))
  refine Ev.pos (by omega) (Ev.pos (by omega) (Ev.ite (fun g5 => ?_) (fun _ => rj2_bad _ _ _)))
  refine Ev.pos (by omega) (Ev.pos (by omega) ?_)
  by_cases g6 : bt (strOfNums t) ((k + 4 : Nat) : Int) = 45
  · rw [g6, bne_self_eq_false]
    have j2 := rj2_is t hb sg hs k hk (by omega) (by omega)
    rw [if_neg] at j2
    · exact j2
    · rintro ⟨⟨q1, q2⟩, q3⟩
      rw [bt_at_son hb (by omega)] at g4 g5 g6
      refine q3 (h (figrun t) ((t.drop (k + 2)).take 2) (t.drop (k + 5)) ⟨?_, figrun_figs t, by rw [← q1]; exact figrun_figs _, by rw [← q2]; exact figrun_figs _, by omega, by rw [List.length_take, List.length_drop]; omega, by rw [List.length_drop]; omega⟩)
      have e0 : t = t.take k ++ t.drop k := (List.take_append_drop k t).symm
      have e1 : t.drop k = 45 :: t.drop (k + 1) := by rw [List.drop_eq_getElem_cons (by omega), g4]
      have e2 : t.drop (k + 1) = 87 :: t.drop (k + 2) := by rw [List.drop_eq_getElem_cons (by omega), g5]
      have e3 : t.drop (k + 2) = (t.drop (k + 2)).take 2 ++ t.drop (k + 4) := by
        rw [show t.drop (k + 4) = (t.drop (k + 2)).drop 2 by rw [List.drop_drop], List.take_append_drop]
      have e4 : t.drop (k + 4) = 45 :: t.drop (k + 5) := by rw [List.drop_eq_getElem_cons (by omega), g6]
      rw [← e4, ← e3, ← e2, ← e1, show figrun t = t.take k by rw [hk]; exact (figrun_take t).symm]
      exact e0
  · rw [show (bt (strOfNums t) ((k + 4 : Nat) : Int) != 45) = true from bne_iff_ne.mpr g6]
    exact rj2_bad _ _ _
/-- Behind the sign. -/
theorem rparse_go (l : List Int) (hb : Byt l) : ∃ t sg, (sg = 1 ∨ sg = -1) ∧ Byt t ∧ l = (if sg < 0 then [45] else []) ++ t ∧ (sg = 1 → l.headD 0 ≠ 45) ∧ ∀ v, Ev (fun n => horologeref06_Parse.j1 n (strOfNums t) sg) v → Ev (fun n => horologeref06_Parse.f n (strOfNums l)) v := by
  cases l with
  | nil =>
    refine ⟨[], 1, Or.inl rfl, hb, rfl, fun _ => by decide, fun v hv => ?_⟩
    unfold horologeref06_Parse.f
    refine Ev.neg (by rw [son_size]; simp) (Ev.up ?_)
    simp only [horologeref06_Parse.j0, Bool.false_eq_true, if_false]
    exact hv
  | cons x t =>
    have b0 : bt (strOfNums (x :: t)) 0 = x := bt_at_son hb (i := 0) (by simp)
    by_cases h : x = 45
    · subst h
      refine ⟨t, -1, Or.inr rfl, hb.tail, rfl, fun q => by omega, fun v hv => ?_⟩
      unfold horologeref06_Parse.f
      refine Ev.pos (by rw [son_size, List.length_cons]; omega) (Ev.pos (by rw [son_size, List.length_cons]; omega) ?_)
      rw [b0, beq_self_eq_true]
      refine Ev.up ?_
      simp only [horologeref06_Parse.j0, if_true]
      refine Ev.pos (by rw [son_size, List.length_cons]; omega) ?_
      rw [son_cut]
      exact hv
    · refine ⟨x :: t, 1, Or.inl rfl, hb, rfl, fun _ => h, fun v hv => ?_⟩
      unfold horologeref06_Parse.f
      refine Ev.pos (by rw [son_size, List.length_cons]; omega) (Ev.pos (by rw [son_size, List.length_cons]; omega) ?_)
      rw [b0, show (x == 45) = false from beq_eq_false_iff_ne.mpr h]
      refine Ev.up ?_
      simp only [horologeref06_Parse.j0, Bool.false_eq_true, if_false]
      exact hv
theorem rparse_on {l : List Int} {y w d : Int} (h : IsW l y w d) : Ev (fun k => horologeref06_Parse.f k (strOfNums l)) (rdayE y w d) := by
  obtain ⟨hy, hw, hd, ht⟩ := h
  obtain ⟨hs, y1, y2, w1, d1⟩ := wtext_split hy hw hd
  have hb : Byt l := by rw [ht]; exact wtext_byt
  have fY := rawV_figs y.natAbs 4
  have fW := rawV_figs w.toNat 2
  have fD := rawV_figs d.toNat 1
  have nY := numV_raw y.natAbs 4
  have nW := numV_raw w.toNat 2
  have nD := numV_raw d.toNat 1
  have hz : (rawV y.natAbs 4).length = 5 → (rawV y.natAbs 4).headD 0 ≠ 48 := by
    intro h5
    have hlen := rawV_len y.natAbs 4
    have hlo : 10000 ≤ y.natAbs := by
      rcases Nat.lt_or_ge y.natAbs 10000 with q | q
      · have := digs_len y.natAbs 4 (by have : (10 : Nat) ^ 4 = 10000 := by decide
                                        omega)
        omega
      · exact q
    intro q
    have hc := numV_lt (r := (rawV y.natAbs 4).tail) (fun x hx => fY x (List.mem_of_mem_tail hx))
    rw [List.length_tail, h5] at hc
    have e4 : (10 : Int) ^ (5 - 1) = 10000 := by decide
    have hcons : rawV y.natAbs 4 = 48 :: (rawV y.natAbs 4).tail := by
      cases hr : rawV y.natAbs 4 with
      | nil => rw [hr] at h5; simp at h5
      | cons x r => rw [hr] at q; rw [show x = 48 from q]; rfl
    have : numV (rawV y.natAbs 4) = numV (rawV y.natAbs 4).tail := by
      rw [numV_lv fY, numV_lv (fun x hx => fY x (List.mem_of_mem_tail hx))]
      conv => lhs; rw [hcons]
      exact lv_rep 1 _
    omega
  generalize rawV y.natAbs 4 = Y at *
  generalize rawV w.toNat 2 = W at *
  generalize rawV d.toNat 1 = D at *
  obtain ⟨t, sg, hsg, hbt, hl, hh, go⟩ := rparse_go l hb
  have ex : t = Y ++ (45 :: 87 :: (W ++ (45 :: D))) ∧ sg * numV Y = y ∧ (sg < 0 → numV Y ≠ 0) := by
    rw [ht, hs] at hl
    by_cases q : y < 0
    · rw [if_pos q] at hl hs
      rcases hsg with e | e
      · exact absurd (by rw [ht, hs]; rfl) (hh e)
      · rw [if_pos (by omega)] at hl
        refine ⟨(List.cons.inj hl).2.symm, by rw [e, nY]; omega, fun _ => by omega⟩
    · rw [if_neg q] at hl hs
      rcases hsg with e | e
      · rw [if_neg (by omega)] at hl
        exact ⟨hl.symm, by rw [e, nY]; omega, fun z => by omega⟩
      · exfalso
        rw [if_pos (by omega)] at hl
        cases Y with
        | nil => simp at y1
        | cons x Y =>
          have := fY x (List.mem_cons_self ..)
          have e2 := (List.cons.inj hl).1
          omega
  obtain ⟨e1, e2, e3⟩ := ex
  have r := rj1_pass t Y W D hbt sg hsg ⟨e1, fY, fW, fD, ⟨y1, y2⟩, w1, d1⟩ (fun q => q.elim (fun z => hz z.1 z.2) (fun z => e3 z.1 z.2))
  rw [e2, nW, nD, show ((w.toNat : Nat) : Int) = w by omega, show ((d.toNat : Nat) : Int) = d by omega] at r
  exact go _ r
theorem rparse_not {l : List Int} (hb : Byt l) (hlen : l.length ≤ 1000) (h : ∀ y w d, ¬ IsW l y w d) : Ev (fun k => horologeref06_Parse.f k (strOfNums l)) (0, 2) := by
  obtain ⟨t, sg, hsg, hbt, hl, hh, go⟩ := rparse_go l hb
  have hle : t.length ≤ l.length := by rw [hl]; simp
  refine go _ (rj1_fail t hbt (by omega) sg hsg ?_)
  intro Y W D ⟨ht, fY, fW, fD, lY, lW, lD⟩
  by_cases ho : oddT Y sg
  · exact ho
  · exfalso
    have nY := numV_lt fY
    have n0 := numV_nonneg fY
    have p5 : (10 : Int) ^ Y.length ≤ 10 ^ 5 := by exact_mod_cast Nat.pow_le_pow_right (by decide) (show Y.length ≤ 5 by omega)
    have e5 : (10 : Int) ^ 5 = 100000 := by decide
    have nW := numV_lt fW
    have w0 := numV_nonneg fW
    have nD := numV_lt fD
    have d0 := numV_nonneg fD
    rw [lW, show (10 : Int) ^ 2 = 100 by decide] at nW
    rw [lD, show (10 : Int) ^ 1 = 10 by decide] at nD
    have rY := raw_num fY 4 (by decide) (by
      rcases Nat.lt_or_ge 4 Y.length with q | q
      · exact Or.inr ⟨by omega, fun z => ho (Or.inl ⟨by omega, z⟩)⟩
      · exact Or.inl (by omega))
    have rW := raw_num fW 2 (by decide) (Or.inl lW)
    have rD := raw_num fD 1 (by decide) (Or.inl lD)
    have hn : sg < 0 → numV Y ≠ 0 := fun q z => ho (Or.inr ⟨q, z⟩)
    have hy : -99999 ≤ sg * numV Y ∧ sg * numV Y ≤ 99999 := by rcases hsg with e | e <;> (rw [e]; omega)
    refine h (sg * numV Y) (numV W) (numV D) ⟨hy, ⟨w0, by omega⟩, ⟨d0, by omega⟩, ?_⟩
    rw [(wtext_split hy ⟨w0, by omega⟩ ⟨d0, by omega⟩).1, hl, ht]
    rw [show (sg * numV Y).natAbs = (numV Y).toNat by rcases hsg with e | e <;> (rw [e]; omega), rY, rW, rD]
    congr 1
    rcases hsg with e | e
    · rw [e, if_neg (by decide), if_neg (by omega)]
    · have := hn (by omega)
      rw [e, if_pos (by decide), if_pos (by omega)]
theorem alive_is : Ev (fun k => horologelaw06_alive.f k) true := Ev.of (fun k => horologelaw06_alive.mono k) (k := 30) (by kernel_rfl)
end Go.Proofs.Ytmcicjjaneaokaa.MWeekTexts
namespace Go.Proofs.Ytmcicjjaneaokaa.Pure
open Go.RowKit Go.Proofs.Ytmcicjjaneaokaa.MWeekTexts Go.Proofs.YtmcicjjaneaokaaW.PrintWords Go.Proofs.YtmcicjjaneaokaaW.PrintLast Go.Proofs.Ytmcicjjaneaokaa.Base
set_option linter.unusedVariables false
set_option linter.unusedSimpArgs false
theorem WeekTexts : horologelaw06_WeekTexts.Pure := by
  intro s hs
  refine Ev.ok (g := fun k => horologelaw06_WeekTexts.f k s) ?_
  unfold horologelaw06_WeekTexts.f
  refine Ev.bind alive_is (Ev.pos rfl (Ev.ite (fun _ => Ev.now _) (fun hlen => ?_)))
  obtain ⟨l, hb, rfl⟩ : ∃ l, Byt l ∧ s = strOfNums l := ⟨bytesOf s, byt_of s, (son_of s).symm⟩
  have hl : l.length ≤ 100 := by rw [son_size] at hlen; omega
  obtain ⟨v, hv, ho⟩ := wparse_or l hb (by omega)
  have done : ∀ (e : Int × Option Int), e.2 ≠ some 0 → v = e → Ev (fun k => horologeref06_Parse.f k (strOfNums l)) (e.1, en e.2) → Ev (fun k => (week_Parse.f k (strOfNums l)).bind fun bt437 => ((horologeref06_Parse.f k (strOfNums l)).bind fun bt439 => (if bt437.1 = bt439.1 then ((horologenum_Num.f bt437.2).bind fun t441 => (some (t441 == bt439.2))) else (some false)))) true := by
    intro e he q hr
    subst q
    exact Ev.bind hv (Ev.bind hr (Ev.pos rfl (Ev.bindc (num_en _ he) (Ev.cast (Ev.now _) (beq_self_eq_true _)))))
  by_cases hw : ∃ y w d, IsW l y w d
  · obtain ⟨y, w, d, hw⟩ := hw
    have o := wparse_on hw.hy hw.hw hw.hd
    rw [← hw.ht] at o
    exact done (wdayV y w d) (wdayV_err y w d) (Ev.same hv o) (rparse_on hw)
  · have hn := rparse_not hb (by omega) (fun y w d q => hw ⟨y, w, d, q⟩)
    rcases ho with ho | ⟨y, w, d, hq, _⟩
    · exact done (0, some 2) (by decide) ho hn
    · exact absurd ⟨y, w, d, hq⟩ hw
end Go.Proofs.Ytmcicjjaneaokaa.Pure
