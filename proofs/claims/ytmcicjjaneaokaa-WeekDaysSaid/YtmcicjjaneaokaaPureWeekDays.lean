/- WeekDays: the week and the text of any day are the document's. For every number of Go's kinds; no further condition. -/
import Derived.Test.YtmcicjjaneaokaaMWeekDaysx
import Derived.Test.YtmcicjjaneaokaaCalBase
import Derived.Test.YtmcicjjaneaokaaFigBase
namespace Go.Proofs.Ytmcicjjaneaokaa.MWeekDays
open Go.RowKit Go.Proofs.YtmcicjjaneaokaaW.PrintWords Go.Proofs.YtmcicjjaneaokaaW.PrintLast Go.Proofs.YtmcicjjaneaokaaW.PrintMore Go.Proofs.Ytmcicjjaneaokaa.Base
set_option linter.unusedVariables false
set_option linter.unusedSimpArgs false

theorem num_is (e : Option Int) : horologenum_Num.f e = some (match e with | none => 0 | some c => if c = 0 then -1 else c) := by
  unfold horologenum_Num.f
  cases e <;> simp
  split <;> rfl
theorem floor_is (a b : Int) (hb : b = 400 ∨ b = 146097) (ha : -100000000 ≤ a ∧ a ≤ 100000000) : day_floor.f a b = some (a / b) := by
  unfold day_floor.f
  rw [tmod_is, tdiv_is]
  rcases hb with rfl | rfl
  · rw [if_neg (by decide)]
    by_cases h : a < 0
    · simp only [if_pos h]
      rw [wr (n := -(-a / 400)) (by omega)]
      split
      · rw [wr (by omega)]; congr 1; omega
      · congr 1; omega
    · simp only [if_neg h]
      rw [if_neg (by omega), wr (by omega)]
  · rw [if_neg (by decide)]
    by_cases h : a < 0
    · simp only [if_pos h]
      rw [wr (n := -(-a / 146097)) (by omega)]
      split
      · rw [wr (by omega)]; congr 1; omega
      · congr 1; omega
    · simp only [if_neg h]
      rw [if_neg (by omega), wr (by omega)]
theorem number_is (y m d : Int) (hy : -30000 ≤ y ∧ y ≤ 30000) (h1 : 1 ≤ m) (h2 : m ≤ 12) (hd : -1000 ≤ d ∧ d ≤ 1000) : day_number.f y m d = some (nm y m d) := by
  have core : ∀ y m : Int, -30001 ≤ y → y ≤ 30001 → 3 ≤ m → m ≤ 14 →
      wrap64 (wrap64 (wrap64 (wrap64 (wrap64 (wrap64 (y / 400 * 146097) + wrap64 (wrap64 (y - wrap64 (y / 400 * 400)) * 365)) + wrap64 (Int.tdiv (wrap64 (y - wrap64 (y / 400 * 400))) 4)) - wrap64 (Int.tdiv (wrap64 (y - wrap64 (y / 400 * 400))) 100)) + wrap64 (wrap64 (wrap64 (Int.tdiv (wrap64 (wrap64 (153 * wrap64 (m - 3)) + 2)) 5) + d) - 1)) - 719468) = nmM y m d := by
    intro y m a1 a2 a3 a4
    have e : y - y / 400 * 400 = y % 400 := by omega
    rw [wr (n := y / 400 * 400) (by omega), e, wr (n := y % 400) (by omega), tdiv_is, tdiv_is, if_neg (by omega), if_neg (by omega)]
    rw [wr (n := m - 3) (by omega), wr (n := 153 * (m - 3)) (by omega), wr (n := 153 * (m - 3) + 2) (by omega), tdiv_is, if_neg (by omega)]
    rw [wr (n := y / 400 * 146097) (by omega), wr (n := y % 400 * 365) (by omega), wr (n := y % 400 / 4) (by omega), wr (n := y % 400 / 100) (by omega), wr (n := (153 * (m - 3) + 2) / 5) (by omega)]
    rw [wr (n := y / 400 * 146097 + y % 400 * 365) (by omega), wr (n := y / 400 * 146097 + y % 400 * 365 + y % 400 / 4) (by omega), wr (n := y / 400 * 146097 + y % 400 * 365 + y % 400 / 4 - y % 400 / 100) (by omega)]
    rw [wr (n := (153 * (m - 3) + 2) / 5 + d) (by omega), wr (n := (153 * (m - 3) + 2) / 5 + d - 1) (by omega), wr (n := y / 400 * 146097 + y % 400 * 365 + y % 400 / 4 - y % 400 / 100 + ((153 * (m - 3) + 2) / 5 + d - 1)) (by omega), wr (by omega)]
    unfold nmM; omega
  unfold day_number.f
  split
  · rw [wr (n := y - 1) (by omega), floor_is _ _ (Or.inl rfl) (by omega), wr (n := m + 12) (by omega)]
    simp only [Option.bind_some]
    rw [core (y - 1) (m + 12) (by omega) (by omega) (by omega) (by omega), nmM_early y m d h1 (by omega)]
  · rw [floor_is _ _ (Or.inl rfl) (by omega)]
    simp only [Option.bind_some]
    rw [core y m (by omega) (by omega) (by omega) (by omega), nmM_late y m d (by omega) h2]
theorem nm_11 (y : Int) : nm y 1 1 = S y := by unfold nm; rw [cm_one]; omega
theorem start_is (y : Int) : day_Start.f y = some (if -20000 ≤ y ∧ y ≤ 20000 then (S y, none) else (0, some 13)) := by
  unfold day_Start.f
  split
  · rw [if_neg (by omega)]
  · split
    · rw [if_neg (by omega)]
    · rw [if_pos (by omega), number_is y 1 1 (by omega) (by decide) (by decide) (by omega), nm_11]
      rfl
theorem weekday_is (n : Int) : day_Weekday.f n = some ((n + 3) % 7 + 1) := by
  unfold day_Weekday.f
  rw [tmod_is n 7]
  split
  · rw [wr (n := -(-n % 7) + 3) (by omega), tmod_is (-(-n % 7) + 3) 7]
    split
    · rw [wr (n := -(-(-(-n % 7) + 3) % 7) + 7) (by omega), tmod_is, if_neg (by omega), wr (by omega)]; congr 1; omega
    · rw [wr (n := (-(-n % 7) + 3) % 7 + 7) (by omega), tmod_is, if_neg (by omega), wr (by omega)]; congr 1; omega
  · rw [wr (n := n % 7 + 3) (by omega), tmod_is (n % 7 + 3) 7, if_neg (by omega), wr (n := (n % 7 + 3) % 7 + 7) (by omega), tmod_is, if_neg (by omega), wr (by omega)]; congr 1; omega
theorem first_is : day_First.f = some (-4371587) := by kernel_rfl
theorem last_is : day_Last.f = some 2932896 := by kernel_rfl
/-- The date of a number. -/
def dateV (n : Int) : Int × Int × Int :=
  let e := (n + 719468) / 146097
  let f := (n + 719468) % 146097
  let r := f - (365 * ofD f + ofD f / 4 - ofD f / 100)
  let m := (5 * r + 2) / 153
  (if m + 3 > 12 then ofD f + e * 400 + 1 else ofD f + e * 400, if m + 3 > 12 then m - 9 else m + 3, r - (153 * m + 2) / 5 + 1)
theorem dateV_ok (n : Int) : ok (dateV n).1 (dateV n).2.1 (dateV n).2.2 ∧ nm (dateV n).1 (dateV n).2.1 (dateV n).2.2 = n := by
  unfold dateV
  simp only
  obtain ⟨f, hf⟩ : ∃ f, f = (n + 719468) % 146097 := ⟨_, rfl⟩
  obtain ⟨e, he⟩ : ∃ e, e = (n + 719468) / 146097 := ⟨_, rfl⟩
  rw [← hf, ← he]
  have o := ofD_is f (by omega) (by omega)
  generalize ofD f = y at *
  obtain ⟨o1, o2, o3, o4⟩ := o
  obtain ⟨r, hr⟩ : ∃ r, r = f - (365 * y + y / 4 - y / 100) := ⟨_, rfl⟩
  rw [← hr]
  have l := lp_01 (y + 1)
  have r0 : 0 ≤ r ∧ r ≤ 365 := by omega
  obtain ⟨m, hm⟩ : ∃ m, m = (5 * r + 2) / 153 := ⟨_, rfl⟩
  rw [← hm]
  have m0 : 0 ≤ m ∧ m ≤ 11 := by omega
  have l4 : lp (y + e * 400 + 1) = lp (y + 1) := by
    unfold lp; congr 1; exact propext ⟨fun h => by omega, fun h => by omega⟩
  by_cases hc : m + 3 > 12
  · rw [if_pos hc, if_pos hc]
    have d := nmM_early (y + e * 400 + 1) (m - 9) (r - (153 * m + 2) / 5 + 1) (by omega) (by omega)
    refine ⟨⟨by omega, by omega, by omega, ?_⟩, ?_⟩
    · unfold ml
      rw [l4]
      have : m = 10 ∨ m = 11 := by omega
      rcases this with h | h <;> subst h
      · rw [if_neg (by decide)]; omega
      · rw [if_pos (by decide)]; omega
    · rw [← d]
      unfold nmM
      rw [show y + e * 400 + 1 - 1 = y + e * 400 by omega, show m - 9 + 12 - 3 = m by omega]
      have q1 : (y + e * 400) / 400 = e := by omega
      have q2 : (y + e * 400) % 400 = y := by omega
      rw [q1, q2]
      omega
  · rw [if_neg hc, if_neg hc]
    have d := nmM_late (y + e * 400) (m + 3) (r - (153 * m + 2) / 5 + 1) (by omega) (by omega)
    refine ⟨⟨by omega, by omega, by omega, ?_⟩, ?_⟩
    · unfold ml
      rw [if_neg (by omega)]
      have : m = 0 ∨ m = 1 ∨ m = 2 ∨ m = 3 ∨ m = 4 ∨ m = 5 ∨ m = 6 ∨ m = 7 ∨ m = 8 ∨ m = 9 := by omega
      rcases this with h | h | h | h | h | h | h | h | h | h <;> (subst h; omega)
    · rw [← d]
      unfold nmM
      rw [show m + 3 - 3 = m by omega]
      have q1 : (y + e * 400) / 400 = e := by omega
      have q2 : (y + e * 400) % 400 = y := by omega
      rw [q1, q2]
      omega
theorem date_is (n : Int) : Ev (fun k => day_Date.f k n) (if -4371587 ≤ n ∧ n ≤ 2932896 then ((dateV n).1, (dateV n).2.1, (dateV n).2.2, none) else (0, 0, 0, some 13)) := by
  unfold day_Date.f
  refine Ev.bindc first_is ?_
  have bad : ¬ (-4371587 ≤ n ∧ n ≤ 2932896) → Ev (fun k => day_Date.j0 k n true) (if -4371587 ≤ n ∧ n ≤ 2932896 then ((dateV n).1, (dateV n).2.1, (dateV n).2.2, none) else (0, 0, 0, some 13)) := by
    intro h
    rw [if_neg h]
    refine Ev.up ?_
    simp only [day_Date.j0, if_true]
    exact Ev.now _
  refine Ev.ite (fun h => bad (by omega)) (fun h => Ev.bindc last_is ?_)
  by_cases h2 : n > 2932896
  · rw [decide_eq_true h2]; exact bad (by omega)
  · rw [decide_eq_false h2, if_pos (by omega)]
    refine Ev.up ?_
    simp only [day_Date.j0, Bool.false_eq_true, if_false]
    have w0 : wrap64 (n + 719468) = n + 719468 := wr (by omega)
    rw [w0, floor_is _ _ (Or.inr rfl) (by omega)]
    simp only [Option.bind_some]
    unfold dateV
    simp only
    have ef : n + 719468 - (n + 719468) / 146097 * 146097 = (n + 719468) % 146097 := by omega
    have eb : -30 ≤ (n + 719468) / 146097 ∧ (n + 719468) / 146097 ≤ 30 := by omega
    have w1 : wrap64 ((n + 719468) / 146097 * 146097) = (n + 719468) / 146097 * 146097 := wr (by omega)
    have w2 : wrap64 ((n + 719468) % 146097) = (n + 719468) % 146097 := wr (by omega)
    have w3 : wrap64 ((n + 719468) / 146097 * 400) = (n + 719468) / 146097 * 400 := wr (by omega)
    simp only [w1, ef, w2, w3]
    have f0 : 0 ≤ (n + 719468) % 146097 ∧ (n + 719468) % 146097 < 146097 := by omega
    generalize (n + 719468) % 146097 = f at *
    generalize (n + 719468) / 146097 = e at *
    clear w0 w1 w2 ef bad
    have t1 : wrap64 (Int.tdiv f 1460) = f / 1460 := by rw [tdiv_is, if_neg (by omega), wr (by omega)]
    have t2 : wrap64 (Int.tdiv f 36524) = f / 36524 := by rw [tdiv_is, if_neg (by omega), wr (by omega)]
    have t3 : wrap64 (Int.tdiv f 146096) = f / 146096 := by rw [tdiv_is, if_neg (by omega), wr (by omega)]
    have t4 : wrap64 (wrap64 (wrap64 (f - f / 1460) + f / 36524) - f / 146096) = f - f / 1460 + f / 36524 - f / 146096 := by
      rw [wr (n := f - f / 1460) (by omega), wr (n := f - f / 1460 + f / 36524) (by omega), wr (by omega)]
    have t5 : Int.tdiv (f - f / 1460 + f / 36524 - f / 146096) 365 = ofD f := by rw [tdiv_is, if_neg (by omega)]; rfl
    have o := ofD_is f f0.1 f0.2
    have l := lp_01 (ofD f + 1)
    have t6 : wrap64 (ofD f) = ofD f := wr (by omega)
    simp only [t1, t2, t3, t4, t5, t6]
    clear t1 t2 t3 t4 t5 t6
    generalize ofD f = y at *
    have t7 : wrap64 (Int.tdiv y 4) = y / 4 := by rw [tdiv_is, if_neg (by omega), wr (by omega)]
    have t8 : wrap64 (Int.tdiv y 100) = y / 100 := by rw [tdiv_is, if_neg (by omega), wr (by omega)]
    have t9 : wrap64 (f - wrap64 (wrap64 (wrap64 (365 * y) + y / 4) - y / 100)) = f - (365 * y + y / 4 - y / 100) := by
      rw [wr (n := 365 * y) (by omega), wr (n := 365 * y + y / 4) (by omega), wr (n := 365 * y + y / 4 - y / 100) (by omega), wr (by omega)]
    have t10 : wrap64 (y + e * 400) = y + e * 400 := wr (by omega)
    simp only [t7, t8, t9, t10]
    clear t7 t8 t9 t10
    have r0 : 0 ≤ f - (365 * y + y / 4 - y / 100) ∧ f - (365 * y + y / 4 - y / 100) ≤ 365 := by omega
    generalize f - (365 * y + y / 4 - y / 100) = r at *
    have t11 : wrap64 (Int.tdiv (wrap64 (wrap64 (5 * r) + 2)) 153) = (5 * r + 2) / 153 := by
      rw [wr (n := 5 * r) (by omega), wr (n := 5 * r + 2) (by omega), tdiv_is, if_neg (by omega), wr (by omega)]
    simp only [t11]
    clear t11
    have m0 : 0 ≤ (5 * r + 2) / 153 ∧ (5 * r + 2) / 153 ≤ 11 := by omega
    generalize (5 * r + 2) / 153 = m at *
    have t12 : wrap64 (Int.tdiv (wrap64 (wrap64 (153 * m) + 2)) 5) = (153 * m + 2) / 5 := by
      rw [wr (n := 153 * m) (by omega), wr (n := 153 * m + 2) (by omega), tdiv_is, if_neg (by omega), wr (by omega)]
    have t13 : wrap64 (wrap64 (r - (153 * m + 2) / 5) + 1) = r - (153 * m + 2) / 5 + 1 := by
      rw [wr (n := r - (153 * m + 2) / 5) (by omega), wr (by omega)]
    have t14 : wrap64 (m + 3) = m + 3 := wr (by omega)
    have t15 : wrap64 (m + 3 - 12) = m - 9 := by rw [wr (by omega)]; omega
    have t16 : wrap64 (y + e * 400 + 1) = y + e * 400 + 1 := wr (by omega)
    simp only [t12, t13, t14, t15, t16]
    refine Ev.ite (fun h => ?_) (fun h => ?_)
    · rw [if_pos h, if_pos h]; exact Ev.now _
    · rw [if_neg h, if_neg h]; exact Ev.now _
theorem rleap_is (y : Int) : horologeref05_Leap.f y = some (decide (lp y = 1)) := by
  have t4 : Int.tmod y 4 = 0 ↔ y % 4 = 0 := by rw [tmod_is]; split <;> omega
  have t100 : Int.tmod y 100 = 0 ↔ y % 100 = 0 := by rw [tmod_is]; split <;> omega
  have t400 : Int.tmod y 400 = 0 ↔ y % 400 = 0 := by rw [tmod_is]; split <;> omega
  have b100 : (Int.tmod y 100 != 0) = !decide (y % 100 = 0) := by rw [← decide_eq_decide.mpr t100]; rfl
  unfold horologeref05_Leap.f lp
  simp only [t4, t400, b100]
  by_cases p400 : y % 400 = 0
  · have p4 : y % 4 = 0 := by omega
    simp [p4, p400]
  · by_cases p4 : y % 4 = 0 <;> by_cases p100 : y % 100 = 0 <;> simp [p4, p100, p400]
theorem rdays_is (y : Int) : horologeref05_Days.f y = some (365 + lp y) := by
  unfold horologeref05_Days.f
  have l := lp_01 y
  rw [rleap_is]
  simp only [Option.bind_some]
  by_cases h : lp y = 1
  · rw [if_pos (decide_eq_true h), h]; rfl
  · rw [if_neg (by rw [decide_eq_false h]; decide), show lp y = 0 by omega]; rfl
theorem rmonth_is (y m : Int) (h1 : 1 ≤ m) (h2 : m ≤ 12) : horologeref05_Month.f y m = some (ml y m) := by
  unfold horologeref05_Month.f
  simp only [Option.bind_some, rleap_is]
  have l := lp_01 y
  have w : wrap64 (m - 1) = m - 1 := wr (by omega)
  have hr : m ≠ 2 ∨ lp y = 0 → rd [31, 28, 31, 30, 31, 30, 31, 31, 30, 31, 30, 31] (m - 1) = ml y m := by
    intro h
    unfold ml
    have := m12 h1 h2
    rcases this with e | e | e | e | e | e | e | e | e | e | e | e <;> subst e
    all_goals first
      | (rw [if_neg (by decide)]; decide)
      | (rw [if_pos (by decide), h.resolve_left (by decide)]; decide)
  rw [w]
  by_cases h : m = 2
  · rw [if_pos h]
    by_cases q : lp y = 1
    · rw [if_pos (decide_eq_true q)]
      unfold ml
      rw [if_pos h, q]; rfl
    · rw [if_neg (by rw [decide_eq_false q]; decide), if_pos (by omega), if_pos (by simp; omega), hr (by omega)]
  · rw [if_neg h, if_pos (by omega), if_pos (by simp; omega), hr (by omega)]
theorem rstart_l2 (y n : Int) (hn : -100000000 ≤ n ∧ n ≤ 100000000) (m : Nat) : ∀ x : Int, 1970 ≤ x → x + m = y → y ≤ 2400 → Ev (fun k => horologeref05_Start.l2 k y (n + S x) x) (n + S y) := by
  induction m with
  | zero =>
    intro x h1 h2 h3
    refine Ev.up ?_
    simp only [horologeref05_Start.l2]
    rw [show x = y by omega]
    exact Ev.neg (by omega) (Ev.now _)
  | succ m ih =>
    intro x h1 h2 h3
    have l := lp_01 x
    have s := S_succ x
    have b1 := S_mono h1
    have b2 := S_mono (show x ≤ 2400 by omega)
    have e1 : S 2400 = 157054 := by decide
    have e0 := S_1970
    refine Ev.up ?_
    simp only [horologeref05_Start.l2, rdays_is, Option.bind_some]
    rw [wr (n := x + 1) (by omega), wr (n := n + S x + (365 + lp x)) (by omega)]
    have := ih (x + 1) (by omega) (by omega) h3
    rw [s] at this
    refine Ev.pos (by omega) ?_
    rw [show n + S x + (365 + lp x) = n + (S x + 365 + lp x) by omega]
    exact this
theorem rstart_l1 (m : Nat) : ∀ y n : Int, 1970 ≤ y → y < 2370 + 400 * m → m ≤ 80 → -50000000 ≤ n → n ≤ 50000000 - 146097 * m → Ev (fun k => horologeref05_Start.l1 k y n) (n + S y) := by
  induction m with
  | zero =>
    intro y n h1 h2 h3 h4 h5
    refine Ev.up ?_
    simp only [horologeref05_Start.l1]
    refine Ev.neg (by omega) ?_
    have := rstart_l2 y n (by omega) (y - 1970).toNat 1970 (by decide) (by omega) (by omega)
    rw [S_1970, Int.add_zero] at this
    exact this
  | succ m ih =>
    intro y n h1 h2 h3 h4 h5
    by_cases h : y ≥ 2370
    · refine Ev.up ?_
      simp only [horologeref05_Start.l1]
      refine Ev.pos h ?_
      rw [wr (n := y - 400) (by omega), wr (n := n + 146097) (by omega)]
      have := ih (y - 400) (n + 146097) (by omega) (by omega) (by omega) (by omega) (by omega)
      have e := S_400 (y - 400)
      rw [show y - 400 + 400 = y by omega] at e
      rw [show n + S y = n + 146097 + S (y - 400) by omega]
      exact this
    · exact ih y n h1 (by omega) (by omega) h4 (by omega)
theorem rstart_l0 (m : Nat) : ∀ y n : Int, 1970 - 400 * m ≤ y → y ≤ 30000 → m ≤ 80 → -50000000 + 146097 * m ≤ n → n ≤ 30000000 → Ev (fun k => horologeref05_Start.l0 k y n) (n + S y) := by
  induction m with
  | zero =>
    intro y n h1 h2 h3 h4 h5
    refine Ev.up ?_
    simp only [horologeref05_Start.l0]
    exact Ev.neg (by omega) (rstart_l1 80 y n (by omega) (by omega) (by omega) (by omega) (by omega))
  | succ m ih =>
    intro y n h1 h2 h3 h4 h5
    by_cases h : y < 1970
    · refine Ev.up ?_
      simp only [horologeref05_Start.l0]
      refine Ev.pos h ?_
      rw [wr (n := y + 400) (by omega), wr (n := n - 146097) (by omega)]
      have := ih (y + 400) (n - 146097) (by omega) (by omega) (by omega) (by omega) (by omega)
      rw [S_400] at this
      rw [show n + S y = n - 146097 + (S y + 146097) by omega]
      exact this
    · exact ih y n (by omega) h2 (by omega) (by omega) h5
theorem rstart_is (y : Int) (h1 : -30000 ≤ y) (h2 : y ≤ 30000) : Ev (fun k => horologeref05_Start.f k y) (S y) := by
  have := rstart_l0 80 y 0 (by omega) h2 (by omega) (by omega) (by omega)
  rw [Int.zero_add] at this
  exact this
theorem rdate_l3 (y n : Int) (j : Nat) : ∀ m : Int, 1 ≤ m → m + j = 12 → S y + cm y m ≤ n → n < S (y + 1) → Ev (fun k => horologeref05_Date.l3 k (n - S y - cm y m) y m) ((dateV n).1, (dateV n).2.1, (dateV n).2.2) := by
  have key : ∀ m : Int, 1 ≤ m → m ≤ 12 → S y + cm y m ≤ n → n < S y + cm y m + ml y m → Ev (fun k => horologeref05_Date.l3 k (n - S y - cm y m) y m) ((dateV n).1, (dateV n).2.1, (dateV n).2.2) := by
    intro m h1 h2 h3 h4
    have b := ml_bd y m
    refine Ev.up ?_
    simp only [horologeref05_Date.l3, rmonth_is y m h1 h2, Option.bind_some]
    refine Ev.neg (by omega) ?_
    rw [wr (by omega)]
    obtain ⟨d1, d2⟩ := dateV_ok n
    have := nm_inj d1 (y' := y) (m' := m) (d' := n - S y - cm y m + 1) ⟨h1, h2, by omega, by omega⟩ (by rw [d2]; unfold nm; omega)
    rw [this.1, this.2.1, this.2.2]
    exact Ev.now _
  induction j with
  | zero =>
    intro m h1 h2 h3 h4
    obtain rfl : m = 12 := by omega
    have := cm_last y
    rw [S_succ] at h4
    exact key 12 (by decide) (by decide) h3 (by omega)
  | succ j ih =>
    intro m h1 h2 h3 h4
    by_cases h : n < S y + cm y m + ml y m
    · exact key m h1 (by omega) h3 h
    · have c := cm_succ y m h1 (by omega)
      have b := ml_bd y m
      have cb := cm_bd y m h1 (by omega)
      have h4' := h4
      rw [S_succ] at h4'
      have l := lp_01 y
      refine Ev.up ?_
      simp only [horologeref05_Date.l3, rmonth_is y m h1 (by omega), Option.bind_some]
      refine Ev.pos (by omega) ?_
      rw [wr (n := m + 1) (by omega), wr (n := n - S y - cm y m - ml y m) (by omega)]
      have := ih (m + 1) (by omega) (by omega) (by omega) h4
      rw [c] at this
      rw [show n - S y - cm y m - ml y m = n - S y - (cm y m + ml y m) by omega]
      exact this
theorem rdate_l2 (n : Int) (j : Nat) : ∀ y : Int, -12000 ≤ y → y + j ≤ 11000 → S y ≤ n → n < S (y + j + 1) → Ev (fun k => horologeref05_Date.l2 k (n - S y) y) ((dateV n).1, (dateV n).2.1, (dateV n).2.2) := by
  have key : ∀ y : Int, S y ≤ n → n < S (y + 1) → Ev (fun k => horologeref05_Date.l2 k (n - S y) y) ((dateV n).1, (dateV n).2.1, (dateV n).2.2) := by
    intro y h1 h2
    have h2' := h2
    rw [S_succ] at h2'
    refine Ev.up ?_
    simp only [horologeref05_Date.l2, rdays_is, Option.bind_some]
    refine Ev.neg (by omega) ?_
    have := rdate_l3 y n 11 1 (by decide) (by decide) (by rw [cm_one]; omega) h2
    rw [cm_one, Int.sub_zero] at this
    exact this
  induction j with
  | zero =>
    intro y h1 h2 h3 h4
    rw [show y + ((0 : Nat) : Int) + 1 = y + 1 by omega] at h4
    exact key y h3 h4
  | succ j ih =>
    intro y h1 h2 h3 h4
    by_cases h : n < S (y + 1)
    · exact key y h3 h
    · have h' := h
      have b2 := S_mono (show y + ((j + 1 : Nat) : Int) + 1 ≤ 12000 by omega)
      have b3 := S_mono (show -12000 ≤ y by omega)
      have e2 : S (-12000) = -5102438 := by decide
      have e3 : S 12000 = 3663382 := by decide
      have l := lp_01 y
      rw [S_succ] at h'
      refine Ev.up ?_
      simp only [horologeref05_Date.l2, rdays_is, Option.bind_some]
      refine Ev.pos (by omega) ?_
      rw [wr (n := y + 1) (by omega), wr (n := n - S y - (365 + lp y)) (by omega)]
      have := ih (y + 1) (by omega) (by omega) (by omega) (by rw [show y + 1 + (j : Int) + 1 = y + ((j + 1 : Nat) : Int) + 1 by omega]; exact h4)
      rw [S_succ] at this
      rw [show n - S y - (365 + lp y) = n - (S y + 365 + lp y) by omega]
      exact this
theorem S_1600 (y j : Int) : S (1970 + 400 * j) = 146097 * j := by unfold S; omega
theorem rdate_is (n : Int) (h : -4371587 ≤ n ∧ n ≤ 2932896) : Ev (fun k => horologeref05_Date.f k n) ((dateV n).1, (dateV n).2.1, (dateV n).2.2) := by
  have fin : ∀ y : Int, -11000 ≤ y → y ≤ 10000 → 0 ≤ n - S y → n - S y < 146097 → Ev (fun k => horologeref05_Date.l2 k (n - S y) y) ((dateV n).1, (dateV n).2.1, (dateV n).2.2) := by
    intro y h1 h2 h3 h4
    refine rdate_l2 n 400 y (by omega) (by omega) (by omega) ?_
    have := S_400 y
    have := S_mono (show y + 400 ≤ y + ((400 : Nat) : Int) + 1 by omega)
    omega
  have up : ∀ (j : Nat) (i : Int), (j : Int) + i = 30 → 0 ≤ i → 0 ≤ n - 146097 * i → Ev (fun k => horologeref05_Date.l1 k (n - 146097 * i) (1970 + 400 * i)) ((dateV n).1, (dateV n).2.1, (dateV n).2.2) := by
    intro j
    induction j with
    | zero => intro i h1 h2 h3; omega
    | succ j ih =>
      intro i h1 h2 h3
      refine Ev.up ?_
      simp only [horologeref05_Date.l1]
      refine Ev.ite (fun q => ?_) (fun q => ?_)
      · rw [wr (by omega), wr (by omega)]
        have := ih (i + 1) (by omega) (by omega) (by omega)
        rw [show n - 146097 * i - 146097 = n - 146097 * (i + 1) by omega, show 1970 + 400 * i + 400 = 1970 + 400 * (i + 1) by omega]
        exact this
      · have s := S_1600 0 i
        have := fin (1970 + 400 * i) (by omega) (by omega) (by omega) (by omega)
        rw [s] at this
        exact this
  have dn : ∀ (j : Nat) (i : Int), i - (j : Int) = -31 → i ≤ 0 → (i = 0 ∨ n - 146097 * i < 146097) → Ev (fun k => horologeref05_Date.l0 k (n - 146097 * i) (1970 + 400 * i)) ((dateV n).1, (dateV n).2.1, (dateV n).2.2) := by
    intro j
    induction j with
    | zero => intro i h1 h2 h3; omega
    | succ j ih =>
      intro i h1 h2 h3
      refine Ev.up ?_
      simp only [horologeref05_Date.l0]
      refine Ev.ite (fun q => ?_) (fun q => ?_)
      · rw [wr (by omega), wr (by omega)]
        have := ih (i - 1) (by omega) (by omega) (by omega)
        rw [show n - 146097 * i + 146097 = n - 146097 * (i - 1) by omega, show 1970 + 400 * i - 400 = 1970 + 400 * (i - 1) by omega]
        exact this
      · by_cases hi : i = 0
        · subst hi
          exact up 30 0 (by decide) (by decide) (by omega)
        · refine Ev.up ?_
          simp only [horologeref05_Date.l1]
          refine Ev.neg (by omega) ?_
          have s := S_1600 0 i
          have := fin (1970 + 400 * i) (by omega) (by omega) (by omega) (by omega)
          rw [s] at this
          exact this
  have := dn 31 0 (by decide) (by decide) (Or.inl rfl)
  unfold horologeref05_Date.f
  simpa using this
theorem rweekday_is (n : Int) : horologeref05_Weekday.f n = some ((n + 3) % 7 + 1) := by
  unfold horologeref05_Weekday.f
  have pick : ∀ r : Int, 0 ≤ r → r < 7 → rd [4, 5, 6, 7, 1, 2, 3] r = (r + 3) % 7 + 1 := by
    intro r h0 h1
    have : r = 0 ∨ r = 1 ∨ r = 2 ∨ r = 3 ∨ r = 4 ∨ r = 5 ∨ r = 6 := by omega
    rcases this with rfl | rfl | rfl | rfl | rfl | rfl | rfl <;> rfl
  have hl : (([4, 5, 6, 7, 1, 2, 3] : List Int).length : Int) = 7 := rfl
  have tb := tmod_is n 7
  by_cases hn : n < 0
  · rw [if_pos hn] at tb
    rw [tb]
    by_cases hz : -((-n) % 7) < 0
    · rw [if_pos hz]
      simp only [Option.bind_some, hl]
      rw [show wrap64 (-((-n) % 7) + 7) = -((-n) % 7) + 7 from wr (by omega), if_pos (by omega), if_pos (by omega), pick _ (by omega) (by omega)]
      congr 1; omega
    · rw [if_neg hz]
      simp only [Option.bind_some, hl]
      rw [if_pos (by omega), if_pos (by omega), pick _ (by omega) (by omega)]
      congr 1; omega
  · rw [if_neg hn] at tb
    rw [tb, if_neg (by omega)]
    simp only [Option.bind_some, hl]
    rw [if_pos (by omega), if_pos (by omega), pick _ (by omega) (by omega)]
    congr 1; omega
/-- The Monday of a year's first week. -/
def mon (y : Int) : Int := S y + 3 - (S y + 6) % 7
theorem S_bd (y : Int) (h : -20001 ≤ y ∧ y ≤ 20001) : -9000000 ≤ S y ∧ S y ≤ 9000000 := by unfold S; omega
theorem monday_is (y : Int) : week_monday.f y = some (if -20000 ≤ y ∧ y ≤ 20000 then (mon y, none) else (0, some 13)) := by
  unfold week_monday.f
  rw [start_is]
  simp only [Option.bind_some]
  by_cases h : -20000 ≤ y ∧ y ≤ 20000
  · have b := S_bd y (by omega)
    rw [if_pos h, if_pos h]
    simp only [Option.isNone_none, if_true]
    rw [show wrap64 (S y + 3) = S y + 3 from wr (by omega), weekday_is]
    simp only [Option.bind_some]
    unfold mon
    generalize S y = s at *
    rw [show (s + 3 + 3) % 7 + 1 - 1 = (s + 6) % 7 by omega, show wrap64 ((s + 6) % 7) = (s + 6) % 7 from wr (by omega), show wrap64 (s + 3 - (s + 6) % 7) = s + 3 - (s + 6) % 7 from wr (by omega)]
  · rw [if_neg h, if_neg h]; rfl
/-- The Thursday of a day's week. -/
def thu (n : Int) : Int := n + 3 - (n + 3) % 7
theorem mon_thu (n y : Int) : mon y ≤ n ↔ S y ≤ thu n := by unfold mon thu; omega
theorem mon_week (n y : Int) : (n - mon y) / 7 = (thu n - S y) / 7 := by unfold mon thu; omega
/-- The week's year of a day. -/
def wyr (n : Int) : Int := if S ((dateV n).1 + 1) ≤ thu n then (dateV n).1 + 1 else if S (dateV n).1 ≤ thu n then (dateV n).1 else (dateV n).1 - 1
def weekOf (n : Int) : Int × Int × Int := (wyr n, (thu n - S (wyr n)) / 7 + 1, (n + 3) % 7 + 1)
theorem dateV_yr (n : Int) : S (dateV n).1 ≤ n ∧ n < S ((dateV n).1 + 1) := by
  have h := dateV_ok n
  have b := nm_bd h.1
  rw [h.2] at b
  exact b
theorem dateV_yb (n : Int) (h : -4371587 ≤ n ∧ n ≤ 2932896) : -9999 ≤ (dateV n).1 ∧ (dateV n).1 ≤ 9999 := by
  have b := dateV_yr n
  have e1 : S (-9999) = -4371587 := by decide
  have e2 : S 10000 = 2932897 := by decide
  have h1 : (dateV n).1 < 10000 := S_lt (by omega)
  have h2 : -9999 < (dateV n).1 + 1 := S_lt (by omega)
  omega
theorem thu_bd (n : Int) : n - 3 ≤ thu n ∧ thu n ≤ n + 3 := by unfold thu; omega
theorem wyr_is (n : Int) : S (wyr n) ≤ thu n ∧ thu n < S (wyr n + 1) := by
  have b := dateV_yr n
  have t := thu_bd n
  unfold wyr
  have s1 := S_mono (a := (dateV n).1 + 1) (b := (dateV n).1 + 1 + 1) (by omega)
  have s2 := S_mono (a := (dateV n).1 - 1) (b := (dateV n).1) (by omega)
  by_cases h1 : S ((dateV n).1 + 1) ≤ thu n
  · rw [if_pos h1]; exact ⟨h1, by omega⟩
  · rw [if_neg h1]
    by_cases h2 : S (dateV n).1 ≤ thu n
    · rw [if_pos h2]; exact ⟨h2, by omega⟩
    · rw [if_neg h2, show (dateV n).1 - 1 + 1 = (dateV n).1 by omega]; exact ⟨by omega, by omega⟩
theorem wof_last (n y : Int) (hn : -4371587 ≤ n ∧ n ≤ 2932896) (hy : -20000 ≤ y ∧ y ≤ 20000) : wrap64 (wrap64 (Int.tdiv (wrap64 (n - mon y)) 7) + 1) = (thu n - S y) / 7 + 1 ∨ ¬ mon y ≤ n := by
  by_cases h : mon y ≤ n
  · refine Or.inl ?_
    have b := S_bd y (by omega)
    have hm : mon y ≤ S y + 3 ∧ S y - 3 ≤ mon y := by unfold mon; omega
    rw [show wrap64 (n - mon y) = n - mon y from wr (by omega), tdiv_is, if_neg (by omega), ← mon_week]
    rw [show wrap64 ((n - mon y) / 7) = (n - mon y) / 7 from wr (by omega), wr (by omega)]
  · exact Or.inr h
theorem wof_is (n : Int) : Ev (fun k => week_Of.f k n) (if -4371587 ≤ n ∧ n ≤ 2932896 then ((weekOf n).1, (weekOf n).2.1, (weekOf n).2.2, none) else (0, 0, 0, some 13)) := by
  unfold week_Of.f
  refine Ev.bind (date_is n) ?_
  by_cases h : -4371587 ≤ n ∧ n ≤ 2932896
  · rw [if_pos h, if_pos h]
    have yb := dateV_yb n h
    have b := dateV_yr n
    have t := thu_bd n
    have wy := wyr_is n
    have s2 := S_mono (a := (dateV n).1 - 1) (b := (dateV n).1) (by omega)
    unfold weekOf
    have hw : wyr n = if S ((dateV n).1 + 1) ≤ thu n then (dateV n).1 + 1 else if S (dateV n).1 ≤ thu n then (dateV n).1 else (dateV n).1 - 1 := rfl
    generalize (dateV n).1 = y at *
    refine Ev.pos rfl ?_
    simp only []
    rw [show wrap64 (y + 1) = y + 1 from wr (by omega), show wrap64 (y - 1) = y - 1 from wr (by omega)]
    have fin : ∀ x : Int, -20000 ≤ x → x ≤ 20000 → mon x ≤ n → wyr n = x → wrap64 (wrap64 (Int.tdiv (wrap64 (n - mon x)) 7) + 1) = (thu n - S (wyr n)) / 7 + 1 := by
      intro x h1 h2 h3 h4
      rcases wof_last n x h ⟨h1, h2⟩ with e | e
      · rw [h4]; exact e
      · exact absurd h3 e
    refine Ev.up ?_
    simp only [week_Of.l0]
    refine Ev.pos (by decide) (Ev.pos (by decide) (Ev.bindc (monday_is _) ?_))
    rw [show rd [y + 1, y, y - 1] 0 = y + 1 from rfl, if_pos (by omega)]
    refine Ev.pos rfl (Ev.ite (fun c => ?_) (fun c => ?_))
    · have e : wyr n = y + 1 := by rw [hw, if_pos ((mon_thu n _).mp c)]
      refine Ev.bindc (weekday_is n) (Ev.cast (Ev.now _) ?_)
      rw [fin _ (by omega) (by omega) c e, e]
    · have c' : ¬ S (y + 1) ≤ thu n := fun q => c ((mon_thu n _).mpr q)
      rw [show wrap64 (0 + 1) = 1 from by kernel_rfl]
      refine Ev.up ?_
      simp only [week_Of.l0]
      refine Ev.pos (by decide) (Ev.pos (by decide) (Ev.bindc (monday_is _) ?_))
      rw [show rd [y + 1, y, y - 1] 1 = y from rfl, if_pos (by omega)]
      refine Ev.pos rfl (Ev.ite (fun d => ?_) (fun d => ?_))
      · have e : wyr n = y := by rw [hw, if_neg c', if_pos ((mon_thu n _).mp d)]
        refine Ev.bindc (weekday_is n) (Ev.cast (Ev.now _) ?_)
        rw [fin _ (by omega) (by omega) d e, e]
      · have d' : ¬ S y ≤ thu n := fun q => d ((mon_thu n _).mpr q)
        have e : wyr n = y - 1 := by rw [hw, if_neg c', if_neg d']
        rw [show wrap64 (1 + 1) = 2 from by kernel_rfl]
        refine Ev.up ?_
        simp only [week_Of.l0]
        refine Ev.pos (by decide) (Ev.pos (by decide) (Ev.bindc (monday_is _) ?_))
        rw [show rd [y + 1, y, y - 1] 2 = y - 1 from rfl, if_pos (by omega)]
        have g : mon (y - 1) ≤ n := (mon_thu n _).mpr (by omega)
        refine Ev.pos rfl (Ev.pos g (Ev.bindc (weekday_is n) (Ev.cast (Ev.now _) ?_)))
        rw [fin _ (by omega) (by omega) g e, e]
  · rw [if_neg h, if_neg h]
    exact Ev.neg (by simp) (Ev.now _)
theorem rwof_is (n : Int) (h : -4371587 ≤ n ∧ n ≤ 2932896) : Ev (fun k => horologeref06_Of.f k n) ((weekOf n).1, (weekOf n).2.1, (weekOf n).2.2) := by
  have yb := dateV_yb n h
  have b := dateV_yr n
  have t := thu_bd n
  have wy := wyr_is n
  have wb : -10000 ≤ wyr n ∧ wyr n ≤ 10000 := by unfold wyr; repeat' split
                                                 all_goals omega
  unfold horologeref06_Of.f weekOf
  refine Ev.bindc (rweekday_is n) (Ev.bind (rdate_is n h) ?_)
  have hw : wyr n = if S ((dateV n).1 + 1) ≤ thu n then (dateV n).1 + 1 else if S (dateV n).1 ≤ thu n then (dateV n).1 else (dateV n).1 - 1 := rfl
  have ht : wrap64 (n + wrap64 (4 - ((n + 3) % 7 + 1))) = thu n := by
    unfold thu
    rw [show wrap64 (4 - ((n + 3) % 7 + 1)) = 4 - ((n + 3) % 7 + 1) from wr (by omega), show wrap64 (n + (4 - ((n + 3) % 7 + 1))) = n + (4 - ((n + 3) % 7 + 1)) from wr (by omega)]
    omega
  simp only []
  rw [ht]
  have fin : Ev (fun k => horologeref06_Of.l1 k ((n + 3) % 7 + 1) (thu n) (wyr n)) (wyr n, (thu n - S (wyr n)) / 7 + 1, (n + 3) % 7 + 1) := by
    refine Ev.up ?_
    simp only [horologeref06_Of.l1]
    rw [show wrap64 (wyr n + 1) = wyr n + 1 from wr (by omega)]
    have sb := S_bd (wyr n) (by omega)
    refine Ev.bind (rstart_is _ (by omega) (by omega)) (Ev.neg (by omega) (Ev.bind (rstart_is _ (by omega) (by omega)) (Ev.cast (Ev.now _) ?_)))
    rw [show wrap64 (thu n - S (wyr n)) = thu n - S (wyr n) from wr (by omega), tdiv_is, if_neg (by omega), show wrap64 ((thu n - S (wyr n)) / 7) = (thu n - S (wyr n)) / 7 from wr (by omega), wr (by omega)]
  generalize (dateV n).1 = y at *
  refine Ev.up ?_
  simp only [horologeref06_Of.l0]
  refine Ev.bind (rstart_is y (by omega) (by omega)) (Ev.ite (fun c => ?_) (fun c => ?_))
  · have s := S_mono (a := y) (b := y + 1) (by omega)
    have e : wyr n = y - 1 := by rw [hw, if_neg (by omega), if_neg (by omega)]
    rw [show wrap64 (y - 1) = y - 1 from wr (by omega), ← e]
    refine Ev.up ?_
    simp only [horologeref06_Of.l0]
    exact Ev.bind (rstart_is _ (by omega) (by omega)) (Ev.neg (by omega) fin)
  · by_cases d : S (y + 1) ≤ thu n
    · have e : wyr n = y + 1 := by rw [hw, if_pos d]
      refine Ev.up ?_
      simp only [horologeref06_Of.l1]
      rw [show wrap64 (y + 1) = y + 1 from wr (by omega)]
      refine Ev.bind (rstart_is _ (by omega) (by omega)) (Ev.pos d ?_)
      rw [← e]
      exact fin
    · have e : wyr n = y := by rw [hw, if_neg d, if_pos (by omega)]
      rw [← e]
      exact fin
theorem rev_l0 (l : List Int) (hn : l.length ≤ 1000000) (m : Nat) : ∀ (x : List Int) (i : Nat), x.length = l.length → 2 * i + m ≥ l.length → 2 * i ≤ l.length + 1 →
    (∀ t : Nat, t < l.length → rd x t = if t < i ∨ l.length - 1 - i < t then rd l ((l.length - 1 - t : Nat) : Int) else rd l t) →
      Ev (fun k => slices_Reverse_byte_byte.l0 k x i ((l.length : Int) - 1 - i)) l.reverse := by
  induction m with
  | zero =>
    intro x i hl hm h2 h
    refine Ev.up ?_
    simp only [slices_Reverse_byte_byte.l0]
    refine Ev.neg (by omega) ?_
    rw [← rev_of hl (fun t ht => ?_)]
    · exact Ev.now _
    · rw [h t ht]
      by_cases q : t < i ∨ l.length - 1 - i < t
      · rw [if_pos q]
      · rw [if_neg q, show l.length - 1 - t = t by omega]
  | succ m ih =>
    intro x i hl hm h2 h
    by_cases hgo : 2 * i + 1 < l.length
    · have ej : (l.length : Int) - 1 - i = ((l.length - 1 - i : Nat) : Int) := by omega
      refine Ev.up ?_
      simp only [slices_Reverse_byte_byte.l0, ej]
      refine Ev.pos (by omega) (Ev.pos (by omega) (Ev.pos (by omega) (Ev.pos (by omega) (Ev.pos (by omega) ?_))))
      rw [wr (n := (i : Int) + 1) (by omega), wr (n := ((l.length - 1 - i : Nat) : Int) - 1) (by omega)]
      have := ih ((x.set (i : Int).toNat (rd x ((l.length - 1 - i : Nat) : Int))).set ((l.length - 1 - i : Nat) : Int).toNat (rd x i)) (i + 1) (by simp [hl]) (by omega) (by omega) (by
        intro t ht
        simp only [Int.toNat_natCast]
        rw [rd_set _ _ _ (by simp; omega), rd_set _ _ _ (by omega)]
        by_cases t1 : t = l.length - 1 - i
        · rw [if_pos t1, if_pos (by omega), h i (by omega), if_neg (by omega), show l.length - 1 - t = i by omega]
        · rw [if_neg t1]
          by_cases t2 : t = i
          · rw [if_pos t2, if_pos (by omega), h _ (by omega), if_neg (by omega), t2]
          · rw [if_neg t2, h t ht]
            by_cases t3 : t < i ∨ l.length - 1 - i < t
            · rw [if_pos t3, if_pos (by omega)]
            · rw [if_neg t3, if_neg (by omega)])
      rw [show (l.length : Int) - 1 - ((i + 1 : Nat) : Int) = ((l.length - 1 - i : Nat) : Int) - 1 by omega] at this
      exact this
    · exact (by
        refine Ev.up ?_
        simp only [slices_Reverse_byte_byte.l0]
        refine Ev.neg (by omega) ?_
        rw [← rev_of hl (fun t ht => ?_)]
        · exact Ev.now _
        · rw [h t ht]
          by_cases q : t < i ∨ l.length - 1 - i < t
          · rw [if_pos q]
          · rw [if_neg q, show l.length - 1 - t = t by omega])
theorem rev_is (l : List Int) (hn : l.length ≤ 1000000) : Ev (fun k => slices_Reverse_byte_byte.f k l) l.reverse := by
  unfold slices_Reverse_byte_byte.f
  rw [wr (by omega)]
  have := rev_l0 l hn l.length l 0 rfl (by omega) (by omega) (fun t ht => by rw [if_neg (by omega)])
  simpa using this
theorem raw_pad (w : Int) (hw : 0 ≤ w ∧ w ≤ 1000) (m : Nat) : ∀ out : List Int, out.length ≤ 1000 → (max w.toNat 1 - out.length) ≤ m → Ev (fun k => figures_raw.l0 k 0 w out) (strOfNums ((out ++ List.replicate (max w.toNat 1 - out.length) 48).reverse)) := by
  have hx : mx w 1 = ((max w.toNat 1 : Nat) : Int) := by unfold mx; split <;> omega
  induction m with
  | zero =>
    intro out ho hm
    refine Ev.up ?_
    simp only [figures_raw.l0, hx]
    refine Ev.neg (by omega) (Ev.neg (by omega) (Ev.bind (rev_is out (by omega)) ?_))
    rw [show max w.toNat 1 - out.length = 0 by omega, List.replicate_zero, List.append_nil]
    exact Ev.now _
  | succ m ih =>
    intro out ho hm
    by_cases h : out.length < max w.toNat 1
    · refine Ev.up ?_
      simp only [figures_raw.l0, hx]
      have w1 : IntKind.u64.wrap (Int.tdiv 0 10) = 0 := by decide
      have w2 : (48 + Int.tmod 0 10) % 256 = 48 := by decide
      rw [w1, w2]
      refine Ev.neg (by omega) (Ev.pos (by omega) (Ev.pos (by omega) ?_))
      have := ih (out ++ [48]) (by simp; omega) (by simp; omega)
      rw [snoc_rep, show max w.toNat 1 - (out ++ [(48 : Int)]).length + 1 = max w.toNat 1 - out.length by simp; omega] at this
      exact this
    · exact ih out ho (by omega)
theorem raw_l0 (w : Int) (hw : 0 ≤ w ∧ w ≤ 100) (n : Nat) : ∀ out : List Int, n < 18446744073709551616 → out.length + (digs n).length ≤ 200 →
    Ev (fun k => figures_raw.l0 k (n : Int) w out) (strOfNums ((out ++ digs n ++ List.replicate (max w.toNat 1 - (out ++ digs n).length) 48).reverse)) := by
  induction n using Nat.strongRecOn with
  | ind n ih =>
    intro out hn ho
    by_cases h : n = 0
    · subst h
      rw [digs_zero, List.append_nil]
      exact raw_pad w (by omega) _ out (by omega) (Nat.le_refl _)
    · have e := digs_pos (show 0 < n by omega)
      refine Ev.up ?_
      simp only [figures_raw.l0]
      refine Ev.pos (by omega) (Ev.pos (by omega) ?_)
      have w1 : IntKind.u64.wrap (Int.tdiv (n : Int) 10) = ((n / 10 : Nat) : Int) := by rw [tdiv_is, if_neg (by omega), wrap_u64]; omega
      have w2 : (48 + Int.tmod (n : Int) 10) % 256 = 48 + (n : Int) % 10 := by rw [tmod_is, if_neg (by omega)]; omega
      rw [w1, w2]
      have := ih (n / 10) (by omega) (out ++ [48 + (n : Int) % 10]) (by omega) (by rw [e] at ho; simp at ho ⊢; omega)
      rw [show out ++ [48 + (n : Int) % 10] ++ digs (n / 10) = out ++ digs n by rw [e]; simp] at this
      exact this
theorem raw_is (n : Nat) (w : Int) (hn : n < 18446744073709551616) (hw : 0 ≤ w ∧ w ≤ 100) : Ev (fun k => figures_raw.f k (n : Int) w) (strOfNums (rawV n w.toNat)) := by
  have l := digs_len n 20 (by omega)
  have := raw_l0 w hw n [] hn (by simp; omega)
  rw [List.nil_append, List.reverse_append, List.reverse_replicate] at this
  exact this
/-- The text of a number with its sign. -/
def putV (n : Int) (w : Nat) : List Int := if n < 0 then 45 :: rawV (-n).toNat w else rawV n.toNat w
theorem put_is (n w : Int) (hn : I64 n) (hw : 0 ≤ w ∧ w ≤ 20) : Ev (fun k => figures_Put.f k n w) (strOfNums (putV n w.toNat), none) := by
  unfold I64 at hn
  unfold figures_Put.f
  refine Ev.neg (by omega) ?_
  rw [decide_eq_false (by omega)]
  refine Ev.up ?_
  simp only [figures_Put.j0, Bool.false_eq_true, if_false]
  unfold putV
  refine Ev.ite (fun h => ?_) (fun h => ?_)
  · rw [if_pos h, show IntKind.u64.wrap (-IntKind.u64.wrap n) = (((-n).toNat : Nat) : Int) by rw [wrap_u64, wrap_u64]; omega]
    refine Ev.bind (raw_is (-n).toNat w (by omega) (by omega)) (Ev.pos ?_ ?_)
    · rw [son_size, rawV_len]
      have := digs_len (-n).toNat 20 (by omega)
      omega
    · rw [show (⟨#[45]⟩ : ByteArray) = strOfNums [45] from rfl, son_append]
      exact Ev.now _
  · rw [if_neg h, show IntKind.u64.wrap n = ((n.toNat : Nat) : Int) by rw [wrap_u64]; omega]
    exact Ev.bind (raw_is n.toNat w (by omega) (by omega)) (Ev.now _)
theorem rraw_l1 (w : Int) (hw : 0 ≤ w ∧ w ≤ 1000) (m : Nat) : ∀ s : List Int, s.length ≤ 1000 → (max w.toNat 1 - s.length) ≤ m → Ev (fun k => horologeref02_Raw.l1 k w (strOfNums s)) (strOfNums (List.replicate (max w.toNat 1 - s.length) 48 ++ s)) := by
  induction m with
  | zero =>
    intro s hs hm
    refine Ev.up ?_
    simp only [horologeref02_Raw.l1, son_size]
    rw [show max w.toNat 1 - s.length = 0 by omega, List.replicate_zero, List.nil_append]
    exact Ev.neg (by omega) (Ev.neg (by omega) (Ev.now _))
  | succ m ih =>
    intro s hs hm
    by_cases h : s.length < max w.toNat 1
    · refine Ev.up ?_
      simp only [horologeref02_Raw.l1, son_size, show (⟨#[48]⟩ : ByteArray) = strOfNums [48] from rfl, son_append]
      have := ih ([48] ++ s) (by simp; omega) (by simp; omega)
      have e : List.replicate (max w.toNat 1 - ([48] ++ s).length) (48 : Int) ++ ([48] ++ s) = List.replicate (max w.toNat 1 - s.length) 48 ++ s := by
        rw [← List.append_assoc]
        congr 1
        rw [show max w.toNat 1 - s.length = (max w.toNat 1 - ([48] ++ s).length) + 1 by simp; omega, List.replicate_succ']
      rw [e] at this
      exact Ev.ite (fun _ => Ev.pos (by omega) this) (fun q => Ev.pos (by omega) (Ev.pos (by omega) this))
    · exact ih s hs (by omega)
theorem rraw_l0 (w : Int) (hw : 0 ≤ w ∧ w ≤ 100) (n : Nat) : ∀ s : List Int, n < 9223372036854775808 → s.length + (digs n).length ≤ 200 →
    Ev (fun k => horologeref02_Raw.l0 k (n : Int) w (strOfNums s)) (strOfNums (List.replicate (max w.toNat 1 - ((digs n).reverse ++ s).length) 48 ++ ((digs n).reverse ++ s))) := by
  induction n using Nat.strongRecOn with
  | ind n ih =>
    intro s hn hs
    by_cases h : n = 0
    · subst h
      rw [digs_zero]
      refine Ev.up ?_
      simp only [horologeref02_Raw.l0]
      refine Ev.neg (by omega) ?_
      exact rraw_l1 w (by omega) _ s (by omega) (Nat.le_refl _)
    · have e := digs_pos (show 0 < n by omega)
      have w1 : wrap64 (Int.tdiv (n : Int) 10) = ((n / 10 : Nat) : Int) := by rw [tdiv_is, if_neg (by omega), wr (by omega)]; omega
      have w2 : (wrap64 (48 + Int.tmod (n : Int) 10)) % 256 = 48 + (n : Int) % 10 := by rw [tmod_is, if_neg (by omega), wr (by omega)]; omega
      refine Ev.up ?_
      simp only [horologeref02_Raw.l0, Option.bind_some, w1, w2, son_size, son_append]
      refine Ev.pos (by omega) (Ev.pos (by simp; omega) ?_)
      have := ih (n / 10) (by omega) ([48 + (n : Int) % 10] ++ s) (by omega) (by rw [e] at hs; simp at hs ⊢; omega)
      rw [show (digs (n / 10)).reverse ++ ([48 + (n : Int) % 10] ++ s) = (digs n).reverse ++ s by rw [e]; simp] at this
      exact this
theorem rraw_is (n : Nat) (w : Int) (hn : n < 9223372036854775808) (hw : 0 ≤ w ∧ w ≤ 100) : Ev (fun k => horologeref02_Raw.f k (n : Int) w) (strOfNums (rawV n w.toNat)) := by
  have l := digs_len n 20 (by omega)
  have := rraw_l0 w hw n [] hn (by simp; omega)
  rw [List.append_nil, List.length_reverse] at this
  exact this
theorem rput_is (n w : Int) (hn : I64 n) (hm : n ≠ -9223372036854775808) (hw : 0 ≤ w ∧ w ≤ 20) : Ev (fun k => horologeref02_Put.f k n w) (strOfNums (putV n w.toNat), 0) := by
  unfold I64 at hn
  unfold horologeref02_Put.f
  refine Ev.neg (by omega) ?_
  rw [decide_eq_false (by omega)]
  refine Ev.up ?_
  simp only [horologeref02_Put.j0, Bool.false_eq_true, if_false]
  unfold putV
  refine Ev.neg hm (Ev.ite (fun h => ?_) (fun h => ?_))
  · rw [if_pos h, show wrap64 (-n) = (((-n).toNat : Nat) : Int) by rw [wr (by omega)]; omega]
    refine Ev.bind (rraw_is (-n).toNat w (by omega) (by omega)) (Ev.pos ?_ ?_)
    · rw [son_size, rawV_len]
      have := digs_len (-n).toNat 20 (by omega)
      omega
    · rw [show (⟨#[45]⟩ : ByteArray) = strOfNums [45] from rfl, son_append]
      exact Ev.now _
  · rw [if_neg h]
    have := rraw_is n.toNat w (by omega) (by omega)
    rw [show ((n.toNat : Nat) : Int) = n by omega] at this
    exact Ev.bind this (Ev.now _)
/-- The text of a week's day. -/
def wtext (y w d : Int) : List Int := putV y 4 ++ ([45, 87] ++ (putV w 2 ++ ([45] ++ putV d 1)))
theorem putV_len (n : Int) (w : Nat) (hn : I64 n) (hw : w ≤ 20) : (putV n w).length ≤ 30 := by
  unfold I64 at hn
  have hd := digs_len n.natAbs 20 (by have : (10 : Nat) ^ 20 = 100000000000000000000 := by decide
                                      omega)
  unfold putV
  split
  · rw [show n.natAbs = (-n).toNat by omega] at hd
    rw [List.length_cons, rawV_len]; omega
  · rw [show n.natAbs = n.toNat by omega] at hd
    rw [rawV_len]; omega
theorem son_week (a b c : List Int) : (((strOfNums a ++ (⟨#[45, 87]⟩ : ByteArray)) ++ strOfNums b) ++ (⟨#[45]⟩ : ByteArray)) ++ strOfNums c = strOfNums (a ++ ([45, 87] ++ (b ++ ([45] ++ c)))) := by
  rw [show (⟨#[45, 87]⟩ : ByteArray) = strOfNums [45, 87] from rfl, show (⟨#[45]⟩ : ByteArray) = strOfNums [45] from rfl, son_append, son_append, son_append, son_append]
  simp only [List.append_assoc]
theorem wput_is (y w d : Int) (hy : I64 y) (hw : I64 w) (hd : I64 d) : Ev (fun k => week_put.f k y w d) (strOfNums (wtext y w d), none) := by
  unfold week_put.f
  have l1 := putV_len y 4 hy (by decide)
  have l2 := putV_len w 2 hw (by decide)
  have l3 := putV_len d 1 hd (by decide)
  refine Ev.bind (put_is y 4 hy (by decide)) (Ev.pos rfl (Ev.bind (put_is w 2 hw (by decide)) (Ev.pos rfl (Ev.bind (put_is d 1 hd (by decide)) (Ev.pos rfl ?_)))))
  show Ev (fun k => if (strOfNums (putV y 4)).size + 2 ≤ 9223372036854775807 then (if (strOfNums (putV y 4)).size + 2 + (strOfNums (putV w 2)).size ≤ 9223372036854775807 then (if (strOfNums (putV y 4)).size + 2 + (strOfNums (putV w 2)).size + 1 ≤ 9223372036854775807 then (if (strOfNums (putV y 4)).size + 2 + (strOfNums (putV w 2)).size + 1 + (strOfNums (putV d 1)).size ≤ 9223372036854775807 then (some ((((strOfNums (putV y 4) ++ (⟨#[45, 87]⟩ : ByteArray)) ++ strOfNums (putV w 2)) ++ (⟨#[45]⟩ : ByteArray)) ++ strOfNums (putV d 1), none)) else (none)) else (none)) else (none)) else (none)) _
  simp only [son_size]
  refine Ev.pos (by omega) (Ev.pos (by omega) (Ev.pos (by omega) (Ev.pos (by omega) (Ev.cast (Ev.now _) ?_))))
  rw [son_week]; rfl
theorem rwput_is (y w d : Int) (hy : -1000000000000 ≤ y ∧ y ≤ 1000000000000) (hw : -1000000000000 ≤ w ∧ w ≤ 1000000000000) (hd : -1000000000000 ≤ d ∧ d ≤ 1000000000000) : Ev (fun k => horologeref06_Put.f k y w d) (strOfNums (wtext y w d)) := by
  unfold horologeref06_Put.f
  have iy : I64 y := by unfold I64; omega
  have iw : I64 w := by unfold I64; omega
  have id : I64 d := by unfold I64; omega
  have l1 := putV_len y 4 iy (by decide)
  have l2 := putV_len w 2 iw (by decide)
  have l3 := putV_len d 1 id (by decide)
  refine Ev.bind (rput_is y 4 iy (by omega) (by decide)) (Ev.bind (rput_is w 2 iw (by omega) (by decide)) (Ev.bind (rput_is d 1 id (by omega) (by decide)) ?_))
  show Ev (fun k => if (strOfNums (putV y 4)).size + 2 ≤ 9223372036854775807 then (if (strOfNums (putV y 4)).size + 2 + (strOfNums (putV w 2)).size ≤ 9223372036854775807 then (if (strOfNums (putV y 4)).size + 2 + (strOfNums (putV w 2)).size + 1 ≤ 9223372036854775807 then (if (strOfNums (putV y 4)).size + 2 + (strOfNums (putV w 2)).size + 1 + (strOfNums (putV d 1)).size ≤ 9223372036854775807 then (some ((((strOfNums (putV y 4) ++ (⟨#[45, 87]⟩ : ByteArray)) ++ strOfNums (putV w 2)) ++ (⟨#[45]⟩ : ByteArray)) ++ strOfNums (putV d 1))) else (none)) else (none)) else (none)) else (none)) _
  simp only [son_size]
  refine Ev.pos (by omega) (Ev.pos (by omega) (Ev.pos (by omega) (Ev.pos (by omega) (Ev.cast (Ev.now _) ?_))))
  rw [son_week]; rfl
theorem alive_is : Ev (fun k => horologelaw06_alive.f k) true := Ev.of (fun k => horologelaw06_alive.mono k) (k := 30) (by kernel_rfl)
theorem rfirst_is : Ev (fun k => horologeref05_First.f k) (-4371587) := by
  unfold horologeref05_First.f
  exact Ev.bind (rstart_is _ (by decide) (by decide)) (Ev.cast (Ev.now _) (by decide))
theorem rlast_is : Ev (fun k => horologeref05_Last.f k) 2932896 := by
  unfold horologeref05_Last.f
  exact Ev.bind (rstart_is _ (by decide) (by decide)) (Ev.cast (Ev.now _) (by kernel_rfl))
theorem weekOf_bd (n : Int) (h : -4371587 ≤ n ∧ n ≤ 2932896) : (-10000 ≤ (weekOf n).1 ∧ (weekOf n).1 ≤ 10000) ∧ (1 ≤ (weekOf n).2.1 ∧ (weekOf n).2.1 ≤ 60) ∧ 1 ≤ (weekOf n).2.2 ∧ (weekOf n).2.2 ≤ 7 := by
  have yb := dateV_yb n h
  have wy := wyr_is n
  have s := S_succ (wyr n)
  have l := lp_01 (wyr n)
  have wb : -10000 ≤ wyr n ∧ wyr n ≤ 10000 := by unfold wyr; repeat' split
                                                 all_goals omega
  unfold weekOf
  simp only
  omega
theorem wPut_is (n : Int) : Ev (fun k => week_Put.f k n) (if -4371587 ≤ n ∧ n ≤ 2932896 then (strOfNums (wtext (weekOf n).1 (weekOf n).2.1 (weekOf n).2.2), none) else ((⟨#[]⟩ : ByteArray), some 13)) := by
  unfold week_Put.f
  refine Ev.bind (wof_is n) ?_
  by_cases h : -4371587 ≤ n ∧ n ≤ 2932896
  · rw [if_pos h, if_pos h]
    have b := weekOf_bd n h
    exact Ev.pos rfl (Ev.bind (wput_is (weekOf n).1 (weekOf n).2.1 (weekOf n).2.2 (by unfold I64; omega) (by unfold I64; omega) (by unfold I64; omega)) (Ev.now _))
  · rw [if_neg h, if_neg h]
    exact Ev.neg (by simp) (Ev.now _)
end Go.Proofs.Ytmcicjjaneaokaa.MWeekDays
namespace Go.Proofs.Ytmcicjjaneaokaa.Pure
open Go.RowKit Go.Proofs.Ytmcicjjaneaokaa.MWeekDays Go.Proofs.YtmcicjjaneaokaaW.PrintWords Go.Proofs.YtmcicjjaneaokaaW.PrintLast Go.Proofs.Ytmcicjjaneaokaa.Base
set_option linter.unusedVariables false
set_option linter.unusedSimpArgs false
theorem WeekDays : horologelaw06_WeekDays.Pure := by
  intro n hn
  refine Ev.ok (g := fun k => horologelaw06_WeekDays.f k n) ?_
  unfold horologelaw06_WeekDays.f
  refine Ev.bind alive_is (Ev.pos rfl (Ev.bind (wof_is n) (Ev.bind (wPut_is n) (Ev.bind rfirst_is ?_))))
  by_cases h : -4371587 ≤ n ∧ n ≤ 2932896
  · rw [if_pos h, if_pos h]
    have b := weekOf_bd n h
    refine Ev.neg (by omega) (Ev.bind rlast_is ?_)
    rw [decide_eq_false (by omega)]
    refine Ev.up ?_
    simp only [horologelaw06_WeekDays.j0, Bool.false_eq_true, if_false]
    refine Ev.bind (rwof_is n h) (Ev.pos rfl (Ev.pos rfl (Ev.pos rfl (Ev.pos rfl (Ev.pos rfl (Ev.bind (rwput_is (weekOf n).1 (weekOf n).2.1 (weekOf n).2.2 (by omega) (by omega) (by omega)) (Ev.cast (Ev.now _) (beq_self_eq_true _))))))))
  · rw [if_neg h, if_neg h]
    have out : Ev (fun k => horologelaw06_WeekDays.j0 k n 0 0 0 (some 13) (⟨#[]⟩ : ByteArray) (some 13) true) true := by
      refine Ev.up ?_
      simp only [horologelaw06_WeekDays.j0, if_true]
      refine Ev.pos ?_ (Ev.bindc (a := true) ?_ (Ev.pos rfl (Ev.bindc (a := true) ?_ (Ev.now _))))
      · rw [ByteArray.toList_eq]
      · unfold horologenum_Is.f; rw [num_is]; rfl
      · unfold horologenum_Is.f; rw [num_is]; rfl
    refine Ev.ite (fun _ => out) (fun h1 => Ev.bind rlast_is ?_)
    rw [decide_eq_true (by omega)]
    exact out
end Go.Proofs.Ytmcicjjaneaokaa.Pure
