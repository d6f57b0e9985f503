/- MjdDays: the days of any counts, of any kind, and of any texts, are the document's. For every input of Go's kinds; no further condition (of texts longer than 100 the statement says nothing). -/
import Derived.Test.YtlhjgkfhjmjcgaaTMjdDaysBig3
import Derived.Test.YtlhjgkfhjmjcgaaCalBase
import Derived.Test.YtlhjgkfhjmjcgaaFigBase
namespace Go.Proofs.Ytlhjgkfhjmjcgaa.MMjdDays
open Go.RowKit Go.Proofs.YtlhjgkfhjmjcgaaW.PrintWords Go.Proofs.YtlhjgkfhjmjcgaaW.PrintLast Go.Proofs.YtlhjgkfhjmjcgaaW.PrintMore Go.Proofs.Ytlhjgkfhjmjcgaa.Base
set_option linter.unusedVariables false
set_option linter.unusedSimpArgs false

theorem num_is (e : Option Int) : horologenum_Num.f e = some (match e with | none => 0 | some c => if c = 0 then -1 else c) := by
  unfold horologenum_Num.f
  cases e <;> simp
  split <;> rfl
theorem rleap_is (y : Int) : horologeref05_Leap.f y = some (decide (lp y = 1)) := by
  have t4 : Int.tmod y 4 = 0 ↔ y % 4 = 0 := by rw [tmod_is]; split <;> omega
  have t100 : Int.tmod y 100 = 0 ↔ y % 100 = 0 := by rw [tmod_is]; split <;> omega
  have t400 : Int.tmod y 400 = 0 ↔ y % 400 = 0 := by rw [tmod_is]; split <;> omega
  have b100 : (Int.tmod y 100 != 0) = !decide (y % 100 = 0) := by rw [← decide_eq_decide.mpr t100]; rfl
  unfold horologeref05_Leap.f lp
  simp only [t4, t400, b100]
  by_cases p400 : y % 400 = 0
  · have p4 : y % 4 = 0 := by omega
    simp [p4, p400]
  · by_cases p4 : y % 4 = 0 <;> by_cases p100 : y % 100 = 0 <;> simp [p4, p100, p400]
theorem rdays_is (y : Int) : horologeref05_Days.f y = some (365 + lp y) := by
  unfold horologeref05_Days.f
  have l := lp_01 y
  rw [rleap_is]
  simp only [Option.bind_some]
  by_cases h : lp y = 1
  · rw [if_pos (decide_eq_true h), h]; rfl
  · rw [if_neg (by rw [decide_eq_false h]; decide), show lp y = 0 by omega]; rfl
theorem rmonth_is (y m : Int) (h1 : 1 ≤ m) (h2 : m ≤ 12) : horologeref05_Month.f y m = some (ml y m) := by
  unfold horologeref05_Month.f
  simp only [Option.bind_some, rleap_is]
  have l := lp_01 y
  have w : wrap64 (m - 1) = m - 1 := wr (by omega)
  have hr : m ≠ 2 ∨ lp y = 0 → rd [31, 28, 31, 30, 31, 30, 31, 31, 30, 31, 30, 31] (m - 1) = ml y m := by
    intro h
    unfold ml
    have := m12 h1 h2
    rcases this with e | e | e | e | e | e | e | e | e | e | e | e <;> subst e
    all_goals first
      | (rw [if_neg (by decide)]; decide)
      | (rw [if_pos (by decide), h.resolve_left (by decide)]; decide)
  rw [w]
  by_cases h : m = 2
  · rw [if_pos h]
    by_cases q : lp y = 1
    · rw [if_pos (decide_eq_true q)]
      unfold ml
      rw [if_pos h, q]; rfl
    · rw [if_neg (by rw [decide_eq_false q]; decide), if_pos (by omega), if_pos (by simp; omega), hr (by omega)]
  · rw [if_neg h, if_pos (by omega), if_pos (by simp; omega), hr (by omega)]
theorem rstart_l2 (y n : Int) (hn : -100000000 ≤ n ∧ n ≤ 100000000) (m : Nat) : ∀ x : Int, 1970 ≤ x → x + m = y → y ≤ 2400 → Ev (fun k => horologeref05_Start.l2 k y (n + S x) x) (n + S y) := by
  induction m with
  | zero =>
    intro x h1 h2 h3
    refine Ev.up ?_
    simp only [horologeref05_Start.l2]
    rw [show x = y by omega]
    exact Ev.neg (by omega) (Ev.now _)
  | succ m ih =>
    intro x h1 h2 h3
    have l := lp_01 x
    have s := S_succ x
    have b1 := S_mono h1
    have b2 := S_mono (show x ≤ 2400 by omega)
    have e1 : S 2400 = 157054 := by decide
    have e0 := S_1970
    refine Ev.up ?_
    simp only [horologeref05_Start.l2, rdays_is, Option.bind_some]
    rw [wr (n := x + 1) (by omega), wr (n := n + S x + (365 + lp x)) (by omega)]
    have := ih (x + 1) (by omega) (by omega) h3
    rw [s] at this
    refine Ev.pos (by omega) ?_
    rw [show n + S x + (365 + lp x) = n + (S x + 365 + lp x) by omega]
    exact this
theorem rstart_l1 (m : Nat) : ∀ y n : Int, 1970 ≤ y → y < 2370 + 400 * m → m ≤ 80 → -50000000 ≤ n → n ≤ 50000000 - 146097 * m → Ev (fun k => horologeref05_Start.l1 k y n) (n + S y) := by
  induction m with
  | zero =>
    intro y n h1 h2 h3 h4 h5
    refine Ev.up ?_
    simp only [horologeref05_Start.l1]
    refine Ev.neg (by omega) ?_
    have := rstart_l2 y n (by omega) (y - 1970).toNat 1970 (by decide) (by omega) (by omega)
    rw [S_1970, Int.add_zero] at this
    exact this
  | succ m ih =>
    intro y n h1 h2 h3 h4 h5
    by_cases h : y ≥ 2370
    · refine Ev.up ?_
      simp only [horologeref05_Start.l1]
      refine Ev.pos h ?_
      rw [wr (n := y - 400) (by omega), wr (n := n + 146097) (by omega)]
      have := ih (y - 400) (n + 146097) (by omega) (by omega) (by omega) (by omega) (by omega)
      have e := S_400 (y - 400)
      rw [show y - 400 + 400 = y by omega] at e
      rw [show n + S y = n + 146097 + S (y - 400) by omega]
      exact this
    · exact ih y n h1 (by omega) (by omega) h4 (by omega)
theorem rstart_l0 (m : Nat) : ∀ y n : Int, 1970 - 400 * m ≤ y → y ≤ 30000 → m ≤ 80 → -50000000 + 146097 * m ≤ n → n ≤ 30000000 → Ev (fun k => horologeref05_Start.l0 k y n) (n + S y) := by
  induction m with
  | zero =>
    intro y n h1 h2 h3 h4 h5
    refine Ev.up ?_
    simp only [horologeref05_Start.l0]
    exact Ev.neg (by omega) (rstart_l1 80 y n (by omega) (by omega) (by omega) (by omega) (by omega))
  | succ m ih =>
    intro y n h1 h2 h3 h4 h5
    by_cases h : y < 1970
    · refine Ev.up ?_
      simp only [horologeref05_Start.l0]
      refine Ev.pos h ?_
      rw [wr (n := y + 400) (by omega), wr (n := n - 146097) (by omega)]
      have := ih (y + 400) (n - 146097) (by omega) (by omega) (by omega) (by omega) (by omega)
      rw [S_400] at this
      rw [show n + S y = n - 146097 + (S y + 146097) by omega]
      exact this
    · exact ih y n (by omega) h2 (by omega) (by omega) h5
theorem rstart_is (y : Int) (h1 : -30000 ≤ y) (h2 : y ≤ 30000) : Ev (fun k => horologeref05_Start.f k y) (S y) := by
  have := rstart_l0 80 y 0 (by omega) h2 (by omega) (by omega) (by omega)
  rw [Int.zero_add] at this
  exact this
theorem first_is : day_First.f = some (-4371587) := by kernel_rfl
theorem last_is : day_Last.f = some 2932896 := by kernel_rfl
/-- The count of day 0, by its kind; 0: no kind. -/
def zeroV (kind : Int) : Int := if kind = 1 then 40587 else if kind = 2 then 2440588 else if kind = 3 then 25567 else if kind = 4 then -3657 else 0
def isKind (kind : Int) : Prop := 1 ≤ kind ∧ kind ≤ 4
instance (kind : Int) : Decidable (isKind kind) := inferInstanceAs (Decidable (_ ∧ _))
theorem zeroV_bd (kind : Int) : -3657 ≤ zeroV kind ∧ zeroV kind ≤ 2440588 := by unfold zeroV; repeat' split
                                                                                all_goals omega
theorem zero_is (kind : Int) : mjd_zero.f kind = some (if isKind kind then (zeroV kind, none) else (0, some 11)) := by
  unfold mjd_zero.f zeroV isKind
  by_cases h1 : kind = 1
  · subst h1; rfl
  · by_cases h2 : kind = 2
    · subst h2; rfl
    · by_cases h3 : kind = 3
      · subst h3; rfl
      · by_cases h4 : kind = 4
        · subst h4; rfl
        · simp only [if_neg h1, if_neg h2, if_neg h3, if_neg h4, if_neg (show ¬ (1 ≤ kind ∧ kind ≤ 4) by omega)]
def isDay (n : Int) : Prop := -4371587 ≤ n ∧ n ≤ 2932896
instance (n : Int) : Decidable (isDay n) := inferInstanceAs (Decidable (_ ∧ _))
theorem there_is (n : Int) : mjd_there.f n = some (decide (isDay n)) := by
  unfold mjd_there.f
  rw [first_is, last_is]
  simp only [Option.bind_some]
  split
  · congr 1; apply decide_eq_decide.mpr; unfold isDay; omega
  · congr 1; symm; apply decide_eq_false; unfold isDay; omega
def countV (kind n : Int) : Int × Option Int := if isKind kind then (if isDay n then (n + zeroV kind, none) else (0, some 13)) else (0, some 11)
theorem count_is (kind n : Int) : mjd_Count.f kind n = some (countV kind n) := by
  unfold mjd_Count.f countV
  rw [zero_is]
  simp only [Option.bind_some]
  by_cases hk : isKind kind
  · simp only [if_pos hk, Option.isNone_none, if_true, there_is, Option.bind_some]
    by_cases hd : isDay n
    · rw [if_pos (decide_eq_true hd), if_pos hd]
      have := zeroV_bd kind
      unfold isDay at hd
      rw [wr (by omega)]
    · rw [if_neg (by rw [decide_eq_false hd]; decide), if_neg hd]
  · simp only [if_neg hk]; rfl
theorem countV_I64 (kind n : Int) : I64 (countV kind n).1 := by
  have := zeroV_bd kind
  unfold countV
  by_cases hk : isKind kind
  · rw [if_pos hk]
    by_cases hd : isDay n
    · rw [if_pos hd]; unfold isDay at hd; unfold I64; simp only; omega
    · rw [if_neg hd]; unfold I64; simp
  · rw [if_neg hk]; unfold I64; simp
theorem countV_small (kind n : Int) : (countV kind n).1 ≠ -9223372036854775808 := by
  have := zeroV_bd kind
  unfold countV
  by_cases hk : isKind kind
  · rw [if_pos hk]
    by_cases hd : isDay n
    · rw [if_pos hd]; unfold isDay at hd; simp only; omega
    · rw [if_neg hd]; simp
  · rw [if_neg hk]; simp
theorem countV_err (kind n : Int) : ∀ e, (countV kind n).2 = some e → e ≠ 0 := by
  intro e
  unfold countV
  by_cases hk : isKind kind
  · rw [if_pos hk]
    by_cases hd : isDay n
    · rw [if_pos hd]; simp
    · rw [if_neg hd]; simp; omega
  · rw [if_neg hk]; simp; omega
theorem rof_l0 (y m n : Int) (h2 : m ≤ 12) (hn : -100000000 ≤ n ∧ n ≤ 100000000) (j : Nat) : ∀ x : Int, 1 ≤ x → x + j = m → Ev (fun k => horologeref05_Of.l0 k y m (n + cm y x) x) (n + cm y m) := by
  induction j with
  | zero =>
    intro x h1 h2
    refine Ev.up ?_
    simp only [horologeref05_Of.l0]
    rw [show x = m by omega]
    exact Ev.neg (by omega) (Ev.now _)
  | succ j ih =>
    intro x h1 h3
    have c := cm_succ y x h1 (by omega)
    have b := cm_bd y x h1 (by omega)
    have l := ml_bd y x
    refine Ev.up ?_
    simp only [horologeref05_Of.l0, rmonth_is y x h1 (by omega), Option.bind_some]
    rw [wr (n := x + 1) (by omega), wr (n := n + cm y x + ml y x) (by omega)]
    have := ih (x + 1) (by omega) (by omega)
    rw [c] at this
    refine Ev.pos (by omega) ?_
    rw [show n + cm y x + ml y x = n + (cm y x + ml y x) by omega]
    exact this
theorem rof_is (y m d : Int) (hy : -9999 ≤ y ∧ y ≤ 9999) (ho : ok y m d) : Ev (fun k => horologeref05_Of.f k y m d) (nm y m d) := by
  obtain ⟨h1, h2, h3, h4⟩ := ho
  have := ml_bd y m
  have b1 := S_mono (show y ≤ 10000 by omega)
  have b2 := S_mono (show -10000 ≤ y by omega)
  have e1 : S 10000 = 2932897 := by decide
  have e2 : S (-10000) = -4371953 := by decide
  unfold horologeref05_Of.f
  refine Ev.bind (rstart_is y (by omega) (by omega)) ?_
  rw [wr (n := S y + d) (by omega), wr (n := S y + d - 1) (by omega)]
  have := rof_l0 y m (S y + d - 1) h2 (by omega) (m - 1).toNat 1 (by decide) (by omega)
  rw [cm_one, Int.add_zero] at this
  rw [show nm y m d = S y + d - 1 + cm y m by unfold nm; omega]
  exact this
theorem rfirst_is : Ev (fun k => horologeref05_First.f k) (-4371587) :=
  Ev.bind (rstart_is (-9999) (by decide) (by decide)) (Ev.cast (Ev.now _) (by decide))
theorem rlast_is : Ev (fun k => horologeref05_Last.f k) 2932896 :=
  Ev.bind (rstart_is 10000 (by decide) (by decide)) (Ev.cast (Ev.now _) (by rw [show S 10000 = 2932897 by decide]; exact wr (by omega)))
theorem rthere_is (n : Int) : Ev (fun k => horologeref07_There.f k n) (decide (isDay n)) := by
  unfold horologeref07_There.f
  refine Ev.bind rfirst_is (Ev.ite (fun h => Ev.bind rlast_is (Ev.cast (Ev.now _) ?_)) (fun h => Ev.cast (Ev.now _) ?_))
  · exact decide_eq_decide.mpr ⟨fun q => ⟨h, q⟩, fun q => q.2⟩
  · rw [decide_eq_false (show ¬ isDay n from fun q => h q.1)]
theorem repoch_is (kind : Int) : Ev (fun k => horologeref07_Epoch.f k kind) (if isKind kind then (-zeroV kind, true) else (0, false)) := by
  have o : ∀ y m d : Int, -9999 ≤ y ∧ y ≤ 9999 → ok y m d → Ev (fun k => (horologeref05_Of.f k y m d).bind fun t => some (t, true)) (nm y m d, true) := fun y m d h1 h2 => Ev.bind (rof_is y m d h1 h2) (Ev.now _)
  unfold horologeref07_Epoch.f
  refine Ev.ite (fun h => ?_) (fun h1 => Ev.ite (fun h => ?_) (fun h2 => Ev.ite (fun h => ?_) (fun h3 => Ev.ite (fun h => ?_) (fun h4 => ?_))))
  · subst h; exact Ev.cast (o 1858 11 17 (by decide) (by decide)) (by decide)
  · subst h; exact Ev.cast (o (-4713) 11 24 (by decide) (by decide)) (by decide)
  · subst h; exact Ev.cast (o 1900 1 1 (by decide) (by decide)) (by decide)
  · subst h; exact Ev.cast (o 1980 1 6 (by decide) (by decide)) (by decide)
  · rw [if_neg (show ¬ isKind kind from fun q => by unfold isKind at q; omega)]; exact Ev.now _
def dayV (kind c : Int) : Int × Option Int := if isKind kind then (if isDay (c - zeroV kind) then (c - zeroV kind, none) else (0, some 13)) else (0, some 11)
theorem mday_is (kind c : Int) : mjd_Day.f kind c = some (dayV kind c) := by
  unfold mjd_Day.f dayV
  rw [zero_is]
  simp only [Option.bind_some]
  have := zeroV_bd kind
  by_cases hk : isKind kind
  · simp only [if_pos hk, Option.isNone_none, if_true, first_is, last_is, Option.bind_some]
    rw [wr (n := -4371587 + zeroV kind) (by omega), wr (n := 2932896 + zeroV kind) (by omega)]
    by_cases hd : isDay (c - zeroV kind)
    · rw [if_pos hd]
      unfold isDay at hd
      rw [if_neg (by omega), if_neg (by omega), wr (by omega)]
    · rw [if_neg hd]
      split
      · rfl
      · rw [if_pos]
        unfold isDay at hd; omega
  · simp only [if_neg hk]; rfl
theorem is_is (c : Int) : figures_Is.f c = some (decide (figb c)) := by
  unfold figures_Is.f
  split
  · congr 1; exact decide_eq_decide.mpr ⟨fun q => ⟨by omega, q⟩, fun q => q.2⟩
  · congr 1; exact (decide_eq_false (fun q => by unfold figb at q; omega)).symm
theorem mn_nat (a : Nat) (m : Int) (hm : 0 ≤ m) : mn (a : Int) m = ((min m.toNat a : Nat) : Int) := by unfold mn; split <;> omega
theorem run_l0 (s : ByteArray) (m : Int) (hm : 0 ≤ m) (hs : s.size ≤ 140737488351232) (f : Nat) : ∀ i : Nat, i + f = min m.toNat s.size → Ev (fun k => figures_run.l0 k s m i) ((runG s i f : Nat) : Int) := by
  induction f with
  | zero =>
    intro i hi
    refine Ev.up ?_
    simp only [figures_run.l0, mn_nat _ _ hm, runG]
    exact Ev.neg (by omega) (Ev.now _)
  | succ f ih =>
    intro i hi
    refine Ev.up ?_
    simp only [figures_run.l0, mn_nat _ _ hm, is_is, Option.bind_some]
    refine Ev.pos (by omega) (Ev.pos (by omega) (Ev.pos (by omega) (Ev.ite (fun h => ?_) (fun h => ?_))))
    · rw [wr (n := (i : Int) + 1) (by omega)]
      unfold runG
      rw [if_pos (of_decide_eq_true h)]
      exact ih (i + 1) (by omega)
    · unfold runG
      rw [if_neg (fun q => h (decide_eq_true q))]
      exact Ev.now _
theorem run_is (s : ByteArray) (m : Int) (hm : 0 ≤ m) (hs : s.size ≤ 140737488351232) : Ev (fun k => figures_run.f k s m) ((runV s m.toNat : Nat) : Int) := by
  unfold figures_run.f
  exact run_l0 s m hm hs _ 0 (by omega)
theorem value_l0 (s : ByteArray) (L : Int) (hL : 100 ≤ L ∧ L ≤ 18446744073709551615) (hs : s.size ≤ 140737488351232) (hf : ∀ i : Nat, i < s.size → figb (bt s i)) (m : Nat) : ∀ i : Nat, i + m = s.size → nv s i ≤ L →
    Ev (fun k => figures_value.l0 k s L (nv s i) (s.size : Int) i) (if nv s s.size > L then (0, some 5) else (nv s s.size, none)) := by
  induction m with
  | zero =>
    intro i hi hv
    rw [show s.size = i by omega]
    refine Ev.up ?_
    simp only [figures_value.l0]
    rw [if_neg (by omega)]
    exact Ev.neg (by omega) (Ev.now _)
  | succ m ih =>
    intro i hi hv
    have hd := hf i (by omega)
    unfold figb at hd
    have h0 := nv_nonneg s i (fun j hj => hf j (by omega))
    have w1 : (bt s i - 48) % 256 = bt s i - 48 := by omega
    have w2 : IntKind.u64.wrap (Int.tdiv (IntKind.u64.wrap (L - (bt s i - 48))) 10) = (L - (bt s i - 48)) / 10 := by rw [wrap_u64 (L - _), tdiv_is, if_neg (by omega), wrap_u64]; omega
    refine Ev.up ?_
    simp only [figures_value.l0, w1, w2]
    refine Ev.pos (by omega) (Ev.pos (by omega) (Ev.pos (by omega) (Ev.ite (fun h => ?_) (fun h => ?_))))
    · have hm : nv s (i + 1) ≤ nv s s.size := nv_mono s (fun j hj => hf j hj) (by omega)
      simp only [nv] at hm
      rw [if_pos (by omega)]
      exact Ev.now _
    · have w3 : IntKind.u64.wrap (IntKind.u64.wrap (nv s i * 10) + (bt s i - 48)) = nv s (i + 1) := by simp only [nv]; rw [wrap_u64, wrap_u64]; omega
      rw [w3, wr (n := (i : Int) + 1) (by omega)]
      exact ih (i + 1) (by omega) (by simp only [nv]; omega)
theorem value_is (s : ByteArray) (L : Int) (hL : 100 ≤ L ∧ L ≤ 18446744073709551615) (hs : s.size ≤ 140737488351232) (hf : ∀ i : Nat, i < s.size → figb (bt s i)) :
    Ev (fun k => figures_value.f k s L) (if nv s s.size > L then (0, some 5) else (nv s s.size, none)) := by
  unfold figures_value.f
  have := value_l0 s L hL hs hf s.size 0 (by omega) (by simp only [nv]; omega)
  simpa [nv] using this
theorem runV_figs (s : ByteArray) (m : Nat) : ∀ i : Nat, i < runV s m → figb (bt s i) := fun i hi => runG_figs s _ 0 i (by omega) hi
/-- What the figures that a text begins with come to. -/
def takeV (s : ByteArray) (least most L : Int) : Int × Int × Option Int :=
  if least < 1 ∨ least > most ∨ most > 20 then (0, 0, some 1)
  else if (runV s most.toNat : Int) < least then (0, 0, some 2)
  else if nv s (runV s most.toNat) > L then (0, 0, some 5)
  else (nv s (runV s most.toNat), runV s most.toNat, none)
theorem take_is (s : ByteArray) (least most L : Int) (hL : 100 ≤ L ∧ L ≤ 18446744073709551615) (hs : s.size ≤ 140737488351232) : Ev (fun k => figures_take.f k s least most L) (takeV s least most L) := by
  unfold figures_take.f takeV
  have bad : (least < 1 ∨ least > most ∨ most > 20) → Ev (fun k => figures_take.j0 k s least most L true) (if least < 1 ∨ least > most ∨ most > 20 then (0, 0, some 1) else if (runV s most.toNat : Int) < least then (0, 0, some 2) else if nv s (runV s most.toNat) > L then (0, 0, some 5) else (nv s (runV s most.toNat), ((runV s most.toNat : Nat) : Int), none)) := by
    intro h
    rw [if_pos h]
    refine Ev.up ?_
    simp only [figures_take.j0, if_true]
    exact Ev.now _
  refine Ev.ite (fun h => bad (Or.inl h)) (fun h1 => Ev.ite (fun h => bad (Or.inr (Or.inl h))) (fun h2 => ?_))
  by_cases h3 : most > 20
  · rw [decide_eq_true h3]; exact bad (Or.inr (Or.inr h3))
  · rw [decide_eq_false h3, if_neg (by omega)]
    refine Ev.up ?_
    simp only [figures_take.j0, Bool.false_eq_true, if_false]
    refine Ev.bind (run_is s most (by omega) hs) (Ev.ite (fun h => ?_) (fun h => ?_))
    · rw [if_pos h]; exact Ev.now _
    · rw [if_neg h]
      have rb := runV_bd s most.toNat
      have hx : (s.extract 0 ((runV s most.toNat : Nat) : Int).toNat).size = runV s most.toNat := size_extract s _ rb.2
      have hv := value_is (s.extract 0 ((runV s most.toNat : Nat) : Int).toNat) L hL (by rw [hx]; omega) (by
        rw [hx]
        intro i hi
        rw [Int.toNat_natCast, bt_extract s _ i hi rb.2]
        exact runV_figs s _ i hi)
      rw [hx] at hv
      rw [show nv (s.extract 0 ((runV s most.toNat : Nat) : Int).toNat) (runV s most.toNat) = nv s (runV s most.toNat) from nv_extract s _ rb.2 _ (Nat.le_refl _)] at hv
      refine Ev.pos (by omega) (Ev.pos (by omega) (Ev.bind hv ?_))
      by_cases hg : nv s (runV s most.toNat) > L
      · rw [if_pos hg, if_pos hg]; exact Ev.now _
      · rw [if_neg hg, if_neg hg]; exact Ev.now _
theorem ris_l0 (c : Int) (m : Nat) : ∀ x : Int, 48 ≤ x → x + m = 58 → (48 ≤ c → x ≤ c) → Ev (fun k => horologeref02_Is.l0 k c x) (decide (figb c)) := by
  induction m with
  | zero =>
    intro x h1 h2 h3
    refine Ev.up ?_
    simp only [horologeref02_Is.l0]
    rw [decide_eq_false (fun q => by unfold figb at q; omega)]
    exact Ev.neg (by omega) (Ev.now _)
  | succ m ih =>
    intro x h1 h2 h3
    refine Ev.up ?_
    simp only [horologeref02_Is.l0]
    refine Ev.pos (by omega) (Ev.ite (fun h => ?_) (fun h => ?_))
    · rw [decide_eq_true (show figb c from ⟨by omega, by omega⟩)]; exact Ev.now _
    · rw [show (x + 1) % 256 = x + 1 by omega]
      exact ih (x + 1) (by omega) (by omega) (by omega)
theorem ris_is (c : Int) : Ev (fun k => horologeref02_Is.f k c) (decide (figb c)) := ris_l0 c 10 48 (by decide) (by decide) (by omega)
theorem many_l0 (s : ByteArray) (hs : s.size ≤ 140737488351232) (f : Nat) : ∀ i : Nat, i + f = s.size → Ev (fun k => horologeref02_Many.l0 k s i) ((runG s i f : Nat) : Int) := by
  induction f with
  | zero =>
    intro i hi
    refine Ev.up ?_
    simp only [horologeref02_Many.l0, runG]
    rw [← hi]
    exact Ev.neg (by omega) (Ev.cast (Ev.now _) (by omega))
  | succ f ih =>
    intro i hi
    refine Ev.up ?_
    simp only [horologeref02_Many.l0]
    refine Ev.pos (by omega) (Ev.pos (by omega) (Ev.bind (ris_is _) (Ev.ite (fun h => ?_) (fun h => ?_))))
    · rw [wr (n := (i : Int) + 1) (by omega)]
      unfold runG
      rw [if_pos (of_decide_eq_true h)]
      exact ih (i + 1) (by omega)
    · unfold runG
      rw [if_neg (fun q => h (decide_eq_true q))]
      exact Ev.now _
theorem many_is (s : ByteArray) (hs : s.size ≤ 140737488351232) : Ev (fun k => horologeref02_Many.f k s) ((runG s 0 s.size : Nat) : Int) := many_l0 s hs s.size 0 (by omega)
theorem rbig_l0 (s : ByteArray) (hs : s.size ≤ 100) (hf : ∀ i : Nat, i < s.size → figb (bt s i)) (m : Nat) : ∀ (i : Nat) (b : Bool × List Int), i + m = s.size → Is b (nv s i) (4 + 6 * i) →
    ∃ r, Ev (fun k => horologeref02_Big.l0 k s i b.1 b.2) r ∧ Is r (nv s s.size) 1000 := by
  induction m with
  | zero =>
    intro i b hi hb
    refine ⟨b, Ev.up ?_, ?_⟩
    · simp only [horologeref02_Big.l0]
      exact Ev.neg (by omega) (Ev.now _)
    · rw [← hi]; exact hb.mono (by omega)
  | succ m ih =>
    intro i b hi hb
    have hd := hf i (by omega)
    unfold figb at hd
    obtain ⟨t, t1, t2⟩ := Of_is 10 (by unfold I64; omega)
    obtain ⟨p, p1, p2⟩ := Times_is hb t2 (by omega) (by decide)
    obtain ⟨d, d1, d2⟩ := Of_is (bt s i - 48) (by unfold I64; omega)
    obtain ⟨q, q1, q2⟩ := Plus_is p2 d2 (by omega) (by decide)
    obtain ⟨r, r1, r2⟩ := ih (i + 1) q (by omega) (by simp only [nv]; exact q2.mono (by omega))
    refine ⟨r, Ev.up ?_, r2⟩
    simp only [horologeref02_Big.l0]
    rw [show (bt s i - 48) % 256 = bt s i - 48 by omega, wr (n := (i : Int) + 1) (by omega)]
    exact Ev.pos (by omega) (Ev.bind t1 (Ev.bind p1 (Ev.pos (by omega) (Ev.bind d1 (Ev.bind q1 r1)))))
theorem rbig_is (s : ByteArray) (hs : s.size ≤ 100) (hf : ∀ i : Nat, i < s.size → figb (bt s i)) : ∃ r, Ev (fun k => horologeref02_Big.f k s) r ∧ Is r (nv s s.size) 1000 := by
  obtain ⟨z, z1, z2⟩ := Of_is 0 (by unfold I64; omega)
  obtain ⟨r, r1, r2⟩ := rbig_l0 s hs hf s.size 0 z (by omega) (by simpa [nv] using z2)
  exact ⟨r, Ev.bind z1 r1, r2⟩
def en (e : Option Int) : Int := match e with | none => 0 | some c => c
theorem Minus_is {a : Bool × List Int} {x : Int} {n : Nat} (ha : Is a x n) : ∃ r, horologeref01_Minus.f a.1 a.2 = some r ∧ Is r (-x) n := by
  have va := ha.abs
  have na := ha.neg
  unfold horologeref01_Minus.f
  by_cases h : a.1 = true
  · refine ⟨(false, a.2), by rw [if_pos h], Is.mk' ha.dg ha.tr ?_ ?_ ha.le⟩
    · have := na.mp h; rw [decide_eq_false (by omega)]
    · have := na.mp h; rw [va, if_pos this, if_neg (by omega)]
  · have hx : ¬ x < 0 := fun q => h (na.mpr q)
    rw [if_neg hx] at va
    refine ⟨(decide (0 < a.2.length), a.2), by rw [if_neg h], Is.mk' ha.dg ha.tr ?_ ?_ ha.le⟩
    · rw [len_pos ha.dg ha.tr, va]; exact decide_eq_decide.mpr ⟨fun _ => by omega, fun _ => by omega⟩
    · rw [va]; split <;> omega
theorem toList1 (s : ByteArray) (h : 0 < s.size) : (s.extract 0 1).toList = [s[0]] := by
  rw [ByteArray.toList_eq]
  apply List.ext_getElem
  · have : (s.extract 0 1).size = 1 := size_extract s 1 h
    simpa using this
  · intro i h1 h2
    have : i = 0 := by simp at h2; omega
    subst this
    simp
    rfl
theorem prefix_is (s : ByteArray) (c : UInt8) : stringslite_HasPrefix.f s (⟨#[c]⟩ : ByteArray) = some (decide (0 < s.size ∧ bt s 0 = c.toNat)) := by
  have h1 : (⟨#[c]⟩ : ByteArray).size = 1 := rfl
  have h2 : (⟨#[c]⟩ : ByteArray).toList = [c] := by rw [ByteArray.toList_eq]
  unfold stringslite_HasPrefix.f
  rw [h1, h2]
  by_cases h : 0 < s.size
  · rw [if_pos (by omega), if_pos (by omega), if_pos (by omega)]
    rw [show (((1 : Nat) : Int)).toNat = 1 from rfl, toList1 s h]
    congr 1
    have hb : bt s 0 = (s[0]).toNat := by unfold bt; rw [dif_pos (show (0 : Int).toNat < s.size from h)]; rfl
    rw [hb, Bool.eq_iff_iff, beq_iff_eq]
    constructor
    · intro q
      have : s[0] = c := by simpa using q
      rw [this]; simp [h]
    · intro q
      have := (of_decide_eq_true q).2
      have : s[0] = c := UInt8.toNat_inj.mp (by exact_mod_cast this)
      rw [this]
  · rw [if_neg (by omega), decide_eq_false (fun q => h q.1)]
/-- A sign ahead of figures: is it a minus; what is behind it. -/
def minusB (s : ByteArray) : Prop := 0 < s.size ∧ bt s 0 = 45
def plusB (s : ByteArray) : Prop := 0 < s.size ∧ bt s 0 = 43
instance (s : ByteArray) : Decidable (minusB s) := inferInstanceAs (Decidable (_ ∧ _))
instance (s : ByteArray) : Decidable (plusB s) := inferInstanceAs (Decidable (_ ∧ _))
def restB (s : ByteArray) : ByteArray := if minusB s ∨ plusB s then s.extract 1 s.size else s
def limB (s : ByteArray) : Int := if minusB s then 9223372036854775808 else 9223372036854775807
theorem restB_size (s : ByteArray) : (restB s).size ≤ s.size := by
  unfold restB
  split
  · simp
  · exact Nat.le_refl _
def wholeL (s : ByteArray) (least most L : Int) : Int × Option Int :=
  match takeV s least most L with
  | (n, m, none) => if m < (s.size : Int) then (0, some 2) else (n, none)
  | (_, _, some e) => (0, some e)
theorem wholel_is (s : ByteArray) (least most L : Int) (hL : 100 ≤ L ∧ L ≤ 18446744073709551615) (hs : s.size ≤ 140737488351232) : Ev (fun k => figures_whole.f k s least most L) (wholeL s least most L) := by
  unfold figures_whole.f wholeL
  refine Ev.bind (take_is s least most L hL hs) ?_
  rcases takeV s least most L with ⟨n, m, e⟩
  cases e with
  | none =>
    simp only [Option.isNone_none, if_true]
    refine Ev.ite (fun h => ?_) (fun h => ?_)
    · rw [if_pos h]; exact Ev.now _
    · rw [if_neg h]; exact Ev.now _
  | some e => exact Ev.now _
def signedV (s : ByteArray) (most : Int) : Int × Option Int :=
  match wholeL (restB s) 1 most (limB s) with
  | (n, none) => (if minusB s then -n else n, none)
  | (_, some e) => (0, some e)
theorem takeV_bd (s : ByteArray) (least most L : Int) (hL : 0 ≤ L) : 0 ≤ (takeV s least most L).1 ∧ (takeV s least most L).1 ≤ L := by
  unfold takeV
  have := nv_nonneg s (runV s most.toNat) (runV_figs s _)
  repeat' split
  all_goals (simp only; omega)
theorem wholeL_bd (s : ByteArray) (least most L : Int) (hL : 0 ≤ L) : 0 ≤ (wholeL s least most L).1 ∧ (wholeL s least most L).1 ≤ L := by
  have h := takeV_bd s least most L hL
  unfold wholeL
  rcases hq : takeV s least most L with ⟨n, m, e⟩
  rw [hq] at h
  simp only at h
  cases e with
  | none => simp only; split <;> simp only <;> omega
  | some e => simp only; omega
theorem signed_is (s : ByteArray) (most : Int) (hs : s.size ≤ 140737488351232) : Ev (fun k => figures_Signed.f k s most) (signedV s most) := by
  have rs := restB_size s
  unfold figures_Signed.f signedV
  have cut : strings_CutPrefix.f s (⟨#[45]⟩ : ByteArray) = some (if minusB s then s.extract 1 s.size else s, decide (minusB s)) := by
    unfold strings_CutPrefix.f stringslite_CutPrefix.f
    rw [show stringslite_HasPrefix.f s (⟨#[45]⟩ : ByteArray) = some (decide (minusB s)) from (prefix_is s 45).trans rfl]
    simp only [Option.bind_some]
    by_cases h : minusB s
    · have h' := h
      unfold minusB at h'
      rw [if_pos (decide_eq_true h), if_pos h, decide_eq_true h]
      rw [if_pos (by simp [ByteArray.size]), if_pos (by show ((1 : Nat) : Int) ≤ _; omega)]
      rfl
    · rw [if_neg (by rw [decide_eq_false h]; decide), if_neg h, decide_eq_false h]; rfl
  have trim : strings_TrimPrefix.f s (⟨#[43]⟩ : ByteArray) = some (if plusB s then s.extract 1 s.size else s) := by
    unfold strings_TrimPrefix.f stringslite_TrimPrefix.f
    rw [show stringslite_HasPrefix.f s (⟨#[43]⟩ : ByteArray) = some (decide (plusB s)) from (prefix_is s 43).trans rfl]
    simp only [Option.bind_some]
    by_cases h : plusB s
    · have h' := h
      unfold plusB at h'
      rw [if_pos (decide_eq_true h), if_pos h]
      rw [if_pos (by simp [ByteArray.size]), if_pos (by show ((1 : Nat) : Int) ≤ _; omega)]
      rfl
    · rw [if_neg (by rw [decide_eq_false h]; decide), if_neg h]; rfl
  refine Ev.bindc cut ?_
  have bd := wholeL_bd (restB s) 1 most (limB s) (by unfold limB; split <;> omega)
  have hw := wholel_is (restB s) 1 most (limB s) (by unfold limB; split <;> omega) (by omega)
  by_cases hm : minusB s
  · have er : restB s = s.extract 1 s.size := by unfold restB; rw [if_pos (Or.inl hm)]
    have el : limB s = 9223372036854775808 := by unfold limB; rw [if_pos hm]
    rw [if_pos hm]
    refine Ev.pos (decide_eq_true hm) (Ev.up ?_)
    simp only [figures_Signed.j0, decide_eq_true hm]
    rw [er, el] at hw bd
    rw [er, el]
    refine Ev.bind hw ?_
    rcases hq : wholeL (s.extract 1 s.size) 1 most 9223372036854775808 with ⟨n, e⟩
    rw [hq] at bd
    cases e with
    | none =>
      simp only at bd
      simp only [Option.isNone_none, if_true, if_pos hm]
      refine Ev.cast (Ev.now _) ?_
      rw [wrap_u64]
      congr 1
      unfold wrap64; omega
    | some e => exact Ev.now _
  · have el : limB s = 9223372036854775807 := by unfold limB; rw [if_neg hm]
    have er : restB s = if plusB s then s.extract 1 s.size else s := by
      unfold restB
      by_cases hp : plusB s
      · rw [if_pos (Or.inr hp), if_pos hp]
      · rw [if_neg (fun q => q.elim hm hp), if_neg hp]
    rw [if_neg hm]
    refine Ev.neg (by simp [hm]) (Ev.bindc trim (Ev.up ?_))
    simp only [figures_Signed.j0, decide_eq_false hm]
    rw [er, el] at hw bd
    rw [er, el]
    refine Ev.bind hw ?_
    rcases hq : wholeL (if plusB s then s.extract 1 s.size else s) 1 most 9223372036854775807 with ⟨n, e⟩
    rw [hq] at bd
    cases e with
    | none =>
      simp only at bd
      simp only [Option.isNone_none, if_true, if_neg hm, Bool.false_eq_true, if_false]
      refine Ev.cast (Ev.now _) ?_
      rw [wr (by omega)]
    | some e => exact Ev.now _
theorem rsigned_is (s : ByteArray) (most : Int) (hs : s.size ≤ 140737488351232) : Ev (fun k => horologeref02_Signed.f k s most) ((signedV s most).1, en (signedV s most).2) := by
  have rs := restB_size s
  unfold horologeref02_Signed.f
  have bad : ¬ (1 ≤ most ∧ most ≤ 20) → Ev (fun k => horologeref02_Signed.j0 k s most true) ((signedV s most).1, en (signedV s most).2) := by
    intro h
    have e : signedV s most = (0, some 1) := by
      unfold signedV wholeL takeV
      rw [if_pos (by omega)]
    rw [e]
    refine Ev.up ?_
    simp only [horologeref02_Signed.j0, if_true]
    exact Ev.now _
  refine Ev.ite (fun h => bad (by omega)) (fun h1 => ?_)
  by_cases h2 : most > 20
  · rw [decide_eq_true h2]; exact bad (by omega)
  · rw [decide_eq_false h2]
    -- behind the sign
    have h3 : Ev (fun k => horologeref02_Signed.j3 k (restB s) most (decide (minusB s))) ((signedV s most).1, en (signedV s most).2) := by
      have rb := runV_bd (restB s) most.toNat
      have hmain : Ev (fun k => horologeref02_Signed.j4 k (restB s) (decide (minusB s)) ((runV (restB s) most.toNat : Nat) : Int)) ((signedV s most).1, en (signedV s most).2) := by
        refine Ev.up ?_
        simp only [horologeref02_Signed.j4]
        unfold signedV wholeL takeV
        rw [if_neg (show ¬ ((1 : Int) < 1 ∨ 1 > most ∨ most > 20) by omega)]
        refine Ev.ite (fun h => ?_) (fun h => ?_)
        · rw [if_pos h]; exact Ev.now _
        · rw [if_neg h]
          have hx : ((restB s).extract 0 ((runV (restB s) most.toNat : Nat) : Int).toNat).size = runV (restB s) most.toNat := size_extract _ _ rb.2
          obtain ⟨r, r1, r2⟩ := rbig_is ((restB s).extract 0 ((runV (restB s) most.toNat : Nat) : Int).toNat) (by rw [hx]; omega) (by
            rw [hx]
            intro i hi
            rw [Int.toNat_natCast, bt_extract _ _ i hi rb.2]
            exact runV_figs _ _ i hi)
          rw [hx] at r2
          rw [show nv ((restB s).extract 0 ((runV (restB s) most.toNat : Nat) : Int).toNat) (runV (restB s) most.toNat) = nv (restB s) (runV (restB s) most.toNat) from nv_extract _ _ rb.2 _ (Nat.le_refl _)] at r2
          have h0 := nv_nonneg (restB s) (runV (restB s) most.toNat) (runV_figs _ _)
          refine Ev.pos (by omega) (Ev.pos (by omega) (Ev.bind r1 ?_))
          generalize hv : nv (restB s) (runV (restB s) most.toNat) = v at *
          by_cases hm : minusB s
          · obtain ⟨g, g1, g2⟩ := Minus_is r2
            have hsm := Small_is g2 (by decide)
            have el : limB s = 9223372036854775808 := by unfold limB; rw [if_pos hm]
            rw [el]
            refine Ev.pos (decide_eq_true hm) (Ev.bindc g1 (Ev.bind hsm ?_))
            by_cases hg : v > 9223372036854775808
            · rw [smallV_out (by unfold I64; omega), if_pos hg]; exact Ev.neg (by decide) (Ev.now _)
            · rw [smallV_in (by unfold I64; omega), if_neg hg]
              simp only [if_true]
              refine Ev.ite (fun q => ?_) (fun q => ?_)
              · rw [if_pos q]; exact Ev.now _
              · rw [if_neg q]; simp only [if_pos hm]; exact Ev.now _
          · have hsm := Small_is r2 (by decide)
            have el : limB s = 9223372036854775807 := by unfold limB; rw [if_neg hm]
            rw [el]
            refine Ev.neg (by rw [decide_eq_false hm]; decide) (Ev.bind hsm ?_)
            by_cases hg : v > 9223372036854775807
            · rw [smallV_out (by unfold I64; omega), if_pos hg]; exact Ev.neg (by decide) (Ev.now _)
            · rw [smallV_in (by unfold I64; omega), if_neg hg]
              simp only [if_true]
              refine Ev.ite (fun q => ?_) (fun q => ?_)
              · rw [if_pos q]; exact Ev.now _
              · rw [if_neg q]; simp only [if_neg hm]; exact Ev.now _
      have hr := runV_min (restB s) most.toNat
      refine Ev.up ?_
      simp only [horologeref02_Signed.j3]
      refine Ev.bind (many_is _ (by omega)) (Ev.ite (fun h => ?_) (fun h => ?_))
      · have e : ((runV (restB s) most.toNat : Nat) : Int) = most := by omega
        exact Ev.congr (fun k => by rw [e]) hmain
      · rw [show ((runG (restB s) 0 (restB s).size : Nat) : Int) = ((runV (restB s) most.toNat : Nat) : Int) by omega]
        exact hmain
    refine Ev.up ?_
    simp only [horologeref02_Signed.j0, Bool.false_eq_true, if_false]
    by_cases hz : 0 < s.size
    · have hj1 : Ev (fun k => horologeref02_Signed.j1 k s most (decide (minusB s))) ((signedV s most).1, en (signedV s most).2) := by
        refine Ev.up ?_
        simp only [horologeref02_Signed.j1]
        refine Ev.pos (by omega) (Ev.pos (by omega) ?_)
        have go : minusB s ∨ plusB s → Ev (fun k => horologeref02_Signed.j2 k s most (decide (minusB s)) true) ((signedV s most).1, en (signedV s most).2) := by
          intro h
          have er : restB s = s.extract 1 s.size := by unfold restB; rw [if_pos h]
          rw [er] at h3
          refine Ev.up ?_
          simp only [horologeref02_Signed.j2, if_true]
          exact Ev.pos (by omega) h3
        refine Ev.ite (fun h => go (Or.inl ⟨hz, h⟩)) (fun h => ?_)
        by_cases hp : bt s 0 = 43
        · rw [show (bt s 0 == 43) = true from beq_iff_eq.mpr hp]; exact go (Or.inr ⟨hz, hp⟩)
        · rw [show (bt s 0 == 43) = false from beq_eq_false_iff_ne.mpr hp]
          have er : restB s = s := by unfold restB; rw [if_neg (fun q => q.elim (fun z => h z.2) (fun z => hp z.2))]
          rw [er] at h3
          refine Ev.up ?_
          simp only [horologeref02_Signed.j2, Bool.false_eq_true, if_false]
          exact h3
      refine Ev.pos (by omega) (Ev.pos (by omega) ?_)
      rw [show (bt s 0 == 45) = decide (minusB s) by rw [Bool.eq_iff_iff, beq_iff_eq, decide_eq_true_iff]; exact ⟨fun q => ⟨hz, q⟩, fun q => q.2⟩]
      exact hj1
    · refine Ev.neg (by omega) (Ev.up ?_)
      simp only [horologeref02_Signed.j1]
      refine Ev.neg (by omega) (Ev.up ?_)
      simp only [horologeref02_Signed.j2, Bool.false_eq_true, if_false]
      have er : restB s = s := by unfold restB; rw [if_neg (fun q => q.elim (fun z => hz z.1) (fun z => hz z.1))]
      rw [er, decide_eq_false (fun z : minusB s => hz z.1)] at h3
      exact h3
theorem rday_is (kind c : Int) (hc : I64 c) : Ev (fun k => horologeref07_Day.f k kind c) ((dayV kind c).1, en (dayV kind c).2) := by
  unfold horologeref07_Day.f dayV
  have zb := zeroV_bd kind
  refine Ev.bind (repoch_is kind) ?_
  by_cases hk : isKind kind
  · simp only [if_pos hk, if_true]
    refine Ev.ite (fun h => ?_) (fun h1 => Ev.ite (fun h => ?_) (fun h2 => ?_))
    · rw [if_neg (fun q => by unfold isDay at q; omega)]; exact Ev.now _
    · rw [if_neg (fun q => by unfold isDay at q; omega)]; exact Ev.now _
    · rw [wr (n := c + -zeroV kind) (by omega), show c + -zeroV kind = c - zeroV kind by omega]
      refine Ev.bind (rthere_is _) ?_
      by_cases hd : isDay (c - zeroV kind)
      · rw [if_pos hd]; exact Ev.pos (decide_eq_true hd) (Ev.now _)
      · rw [if_neg hd]; exact Ev.neg (by rw [decide_eq_false hd]; decide) (Ev.now _)
  · simp only [if_neg hk]; exact Ev.now _
def parseV (kind : Int) (s : ByteArray) : Int × Option Int := if isKind kind then (match signedV s 7 with | (c, none) => dayV kind c | (_, some e) => (0, some e)) else (0, some 11)
theorem parse_is (kind : Int) (s : ByteArray) (hs : s.size ≤ 140737488351232) : Ev (fun k => mjd_Parse.f k kind s) (parseV kind s) := by
  unfold mjd_Parse.f parseV
  refine Ev.bindc (zero_is kind) ?_
  by_cases hk : isKind kind
  · simp only [if_pos hk, Option.isNone_none, if_true]
    refine Ev.bind (signed_is s 7 hs) ?_
    rcases signedV s 7 with ⟨c, e⟩
    cases e with
    | none => exact Ev.bindc (mday_is kind c) (Ev.now _)
    | some e => exact Ev.now _
  · simp only [if_neg hk]; exact Ev.now _
theorem signedV_I64 (s : ByteArray) (most : Int) : I64 (signedV s most).1 := by
  unfold signedV
  have bd := wholeL_bd (restB s) 1 most (limB s) (by unfold limB; split <;> omega)
  rcases hq : wholeL (restB s) 1 most (limB s) with ⟨n, e⟩
  rw [hq] at bd
  unfold limB at bd
  cases e with
  | none =>
    simp only at *
    unfold I64
    split <;> (rename_i h; simp only [h, if_true, if_false] at bd; omega)
  | some e => unfold I64; simp
theorem takeV_err (s : ByteArray) (least most L : Int) : (takeV s least most L).2.2 ≠ some 0 := by
  unfold takeV
  repeat' split
  all_goals simp
theorem wholeL_err (s : ByteArray) (least most L : Int) : (wholeL s least most L).2 ≠ some 0 := by
  have h := takeV_err s least most L
  unfold wholeL
  rcases hq : takeV s least most L with ⟨n, m, e⟩
  rw [hq] at h
  cases e with
  | none => simp only; split <;> simp
  | some e => exact h
theorem signedV_err (s : ByteArray) (most : Int) : (signedV s most).2 ≠ some 0 := by
  have h := wholeL_err (restB s) 1 most (limB s)
  unfold signedV
  rcases hq : wholeL (restB s) 1 most (limB s) with ⟨n, e⟩
  rw [hq] at h
  cases e with
  | none => simp
  | some e => exact h
theorem rparse_is (kind : Int) (s : ByteArray) (hs : s.size ≤ 140737488351232) : Ev (fun k => horologeref07_Parse.f k kind s) ((parseV kind s).1, en (parseV kind s).2) := by
  unfold horologeref07_Parse.f parseV
  refine Ev.bind (repoch_is kind) ?_
  by_cases hk : isKind kind
  · simp only [if_pos hk, if_true]
    refine Ev.bind (rsigned_is s 7 hs) ?_
    have hi := signedV_I64 s 7
    have he := signedV_err s 7
    rcases hq : signedV s 7 with ⟨c, e⟩
    rw [hq] at hi he
    cases e with
    | none => exact Ev.pos rfl (Ev.bind (rday_is kind c hi) (Ev.now _))
    | some e =>
      have : e ≠ 0 := fun q => he (by rw [q])
      exact Ev.neg this (Ev.now _)
  · simp only [if_neg hk]; exact Ev.now _
theorem num_en (e : Option Int) (h : e ≠ some 0) : horologenum_Num.f e = some (en e) := by
  rw [num_is]
  cases e with
  | none => rfl
  | some c =>
    have : c ≠ 0 := fun q => h (by rw [q])
    simp [en, this]
theorem dayV_err (kind c : Int) : (dayV kind c).2 ≠ some 0 := by
  unfold dayV
  repeat' split
  all_goals simp
theorem parseV_err (kind : Int) (s : ByteArray) : (parseV kind s).2 ≠ some 0 := by
  unfold parseV
  split
  · have he := signedV_err s 7
    rcases hq : signedV s 7 with ⟨c, e⟩
    rw [hq] at he
    cases e with
    | none => exact dayV_err kind c
    | some e => exact he
  · simp
end Go.Proofs.Ytlhjgkfhjmjcgaa.MMjdDays
namespace Go.Proofs.Ytlhjgkfhjmjcgaa.Pure
open Go.RowKit Go.Proofs.Ytlhjgkfhjmjcgaa.MMjdDays Go.Proofs.YtlhjgkfhjmjcgaaW.PrintWords Go.Proofs.YtlhjgkfhjmjcgaaW.PrintLast Go.Proofs.Ytlhjgkfhjmjcgaa.Base
set_option linter.unusedVariables false
set_option linter.unusedSimpArgs false
theorem MjdDays : horologelaw07_MjdDays.Pure := by
  intro kind c s hk hc hs
  replace hc := i64_of hc
  refine Ev.ok (g := fun k => horologelaw07_MjdDays.f k kind c s) ?_
  unfold horologelaw07_MjdDays.f
  refine Ev.bindc (show horologelaw07_alive.f = some true by kernel_rfl) (Ev.pos rfl (Ev.ite (fun _ => Ev.now _) (fun hlen => ?_)))
  refine Ev.bindc (mday_is kind c) (Ev.bind (rday_is kind c hc) (Ev.pos rfl (Ev.bindc (num_en _ (dayV_err kind c)) ?_)))
  rw [bne_self_eq_false]
  refine Ev.up ?_
  simp only [horologelaw07_MjdDays.j0, Bool.false_eq_true, if_false]
  refine Ev.bind (parse_is kind s hs) (Ev.bind (rparse_is kind s hs) (Ev.pos rfl (Ev.bindc (num_en _ (parseV_err kind s)) (Ev.cast (Ev.now _) (beq_self_eq_true _)))))
end Go.Proofs.Ytlhjgkfhjmjcgaa.Pure
