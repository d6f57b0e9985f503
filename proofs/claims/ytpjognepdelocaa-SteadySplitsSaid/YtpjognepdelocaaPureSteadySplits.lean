/- SteadySplits: any reading's seconds, nanoseconds and stamp, and the reading of any seconds and nanoseconds. For every input of Go's kinds; no further condition. -/
import Derived.Test.YtpjognepdelocaaMSteadySplitsx
import Derived.Test.YtpjognepdelocaaBase
namespace Go.Proofs.Ytpjognepdelocaa.MSteadySplits
open Go.RowKit Go.Proofs.YtpjognepdelocaaW.PrintWords Go.Proofs.YtpjognepdelocaaW.PrintLast Go.Proofs.YtpjognepdelocaaW.PrintMore Go.Proofs.Ytpjognepdelocaa.Base
set_option linter.unusedVariables false
set_option linter.unusedSimpArgs false

theorem alive_is : horologelaw34_alive.f = some true := by kernel_rfl
theorem and32 {x : Int} (h0 : 0 ≤ x) (h : x < 18446744073709551616) : Go.bits .and .u64 x 4294967295 = x % 4294967296 := and_mask h0 h (n := 32) (by decide)
theorem mul64_is (a b : Int) (ha : 0 ≤ a ∧ a < 18446744073709551616) (hb : 0 ≤ b ∧ b < 18446744073709551616) :
    bits_Mul64.f a b = some (a * b / 18446744073709551616, a * b % 18446744073709551616) := by
  unfold bits_Mul64.f
  rw [and32 ha.1 ha.2, and32 hb.1 hb.2]
  have hp : ∀ x y : Int, 0 ≤ x → x ≤ 4294967295 → 0 ≤ y → y ≤ 4294967295 → 0 ≤ x * y ∧ x * y ≤ 18446744065119617025 := fun x y h1 h2 h3 h4 =>
    ⟨Int.mul_nonneg h1 h3, by have := Int.mul_le_mul h2 h4 h3 (by decide); omega⟩
  have e : a * b = 18446744073709551616 * ((a / 4294967296) * (b / 4294967296)) + 4294967296 * ((a / 4294967296) * (b % 4294967296) + (a % 4294967296) * (b / 4294967296)) + (a % 4294967296) * (b % 4294967296) := by
    have ea : a = 4294967296 * (a / 4294967296) + a % 4294967296 := by omega
    have eb : b = 4294967296 * (b / 4294967296) + b % 4294967296 := by omega
    generalize a / 4294967296 = a1 at *
    generalize a % 4294967296 = a0 at *
    generalize b / 4294967296 = b1 at *
    generalize b % 4294967296 = b0 at *
    subst ea eb
    simp only [Int.mul_add, Int.add_mul, Int.mul_assoc, Int.mul_left_comm a1 4294967296, Int.mul_left_comm a0 4294967296]
    omega
  have h11 := hp (a / 4294967296) (b / 4294967296) (by omega) (by omega) (by omega) (by omega)
  have h10 := hp (a / 4294967296) (b % 4294967296) (by omega) (by omega) (by omega) (by omega)
  have h01 := hp (a % 4294967296) (b / 4294967296) (by omega) (by omega) (by omega) (by omega)
  have h00 := hp (a % 4294967296) (b % 4294967296) (by omega) (by omega) (by omega) (by omega)
  rw [e]
  clear hp e
  generalize (a / 4294967296) * (b / 4294967296) = p11 at *
  generalize (a / 4294967296) * (b % 4294967296) = p10 at *
  generalize (a % 4294967296) * (b / 4294967296) = p01 at *
  generalize (a % 4294967296) * (b % 4294967296) = p00 at *
  clear ha hb
  have w11 : IntKind.u64.wrap p11 = p11 := by rw [wrap_u64]; omega
  have w10 : IntKind.u64.wrap p10 = p10 := by rw [wrap_u64]; omega
  have w01 : IntKind.u64.wrap p01 = p01 := by rw [wrap_u64]; omega
  have w00 : IntKind.u64.wrap p00 = p00 := by rw [wrap_u64]; omega
  have wt : IntKind.u64.wrap (p10 + p00 / 4294967296) = p10 + p00 / 4294967296 := by rw [wrap_u64]; omega
  rw [w11, w10, w01, w00, wt, and32 (by omega) (by omega)]
  rw [wrap_u64, wrap_u64, wrap_u64, wrap_u64]
  congr 2
  omega
theorem add_is (a b : Int) (ha : I64 a) (hb : I64 b) : num_Add.f a b = some (ovf (a + b)) := by
  unfold I64 at ha hb
  unfold num_Add.f ovf
  by_cases h : I64 (a + b)
  · have w := wrap64_id h
    unfold I64 at h
    rw [w, if_pos (show I64 (a + b) from h)]
    repeat' split
    all_goals first | rfl | omega
  · rw [if_neg h]
    unfold I64 at h
    unfold wrap64
    repeat' split
    all_goals first | rfl | (exfalso; omega)
theorem num_is (e : Option Int) : horologenum_Num.f e = some (match e with | none => 0 | some c => if c = 0 then -1 else c) := by
  unfold horologenum_Num.f
  cases e <;> simp
  split <;> rfl
theorem fold_l0 (t n : Int) (hn : n ≤ 62) (ht : I64 t) (m : Nat) : ∀ (i : Nat), (i : Int) + m = n → Ev (fun k => horologeref13_Fold.l0 k t n (2 ^ i) i) (t % 2 ^ n.toNat) := by
  induction m with
  | zero =>
    intro i hi
    have p62 := pow62 (n := i) (by omega)
    have pp := pow_pos2 i
    rw [show n.toNat = i by omega]
    have e0 := Int.emod_nonneg t (Int.ne_of_gt pp)
    have e1 := Int.emod_lt_of_pos t pp
    have hm : Int.tmod t (2 ^ i) = t % 2 ^ i ∨ (Int.tmod t (2 ^ i) < 0 ∧ Int.tmod t (2 ^ i) + 2 ^ i = t % 2 ^ i) := by
      by_cases h : 0 ≤ t
      · exact Or.inl (Int.tmod_eq_emod_of_nonneg h)
      · have e : t = -(-t) := by omega
        have e2 : Int.tmod t (2 ^ i) = -((-t) % 2 ^ i) := by rw [e, Int.neg_tmod, Int.tmod_eq_emod_of_nonneg (by omega), ← e]
        have a0 := Int.emod_nonneg (-t) (Int.ne_of_gt pp)
        have a1 := Int.emod_lt_of_pos (-t) pp
        by_cases hz : (-t) % 2 ^ i = 0
        · refine Or.inl ?_
          rw [e2, hz]
          have := Int.dvd_of_emod_eq_zero hz
          exact (Int.emod_eq_zero_of_dvd ((Int.dvd_neg).mp this)).symm
        · refine Or.inr ⟨by omega, ?_⟩
          rw [e2]
          have d1 := Int.emod_def (-t) (2 ^ i)
          have d2 : t = (2 ^ i - (-t) % 2 ^ i) + 2 ^ i * (-((-t) / 2 ^ i) - 1) := by
            rw [Int.mul_sub, Int.mul_neg, Int.mul_one]; omega
          have d3 := congrArg (fun z => z % (2 : Int) ^ i) d2
          simp only [Int.add_mul_emod_self_left] at d3
          rw [d3, Int.emod_eq_of_lt (a := 2 ^ i - (-t) % 2 ^ i) (b := 2 ^ i) (by omega) (by omega)]; omega
    refine Ev.up ?_
    simp only [horologeref13_Fold.l0]
    refine Ev.neg (by omega) (Ev.neg (by omega) ?_)
    rcases hm with h | ⟨h1, h2⟩
    · refine Ev.neg (by omega) ?_
      rw [h]; exact Ev.now _
    · refine Ev.pos h1 ?_
      rw [h2, wrap64_id (by unfold I64; omega)]; exact Ev.now _
  | succ m ih =>
    intro i hi
    have p62 := pow62 (n := i + 1) (by omega)
    have pp := pow_pos2 i
    rw [pow_succ2] at p62
    refine Ev.up ?_
    simp only [horologeref13_Fold.l0]
    refine Ev.pos (by omega) ?_
    have := ih (i + 1) (by omega)
    rw [wrap64_id (n := 2 ^ i * 2) (by unfold I64; omega), wrap64_id (n := (i : Int) + 1) (by unfold I64; omega)]
    rw [pow_succ2] at this
    rw [Int.mul_comm (2 ^ i) 2]
    exact this
theorem ref_fold_is (t n : Int) (h0 : 0 ≤ n) (hn : n ≤ 62) (ht : I64 t) : Ev (fun k => horologeref13_Fold.f k t n) (t % 2 ^ n.toNat) :=
  fold_l0 t n hn ht n.toNat 0 (by omega)
/-- Seconds and nanoseconds, joined to a reading. -/
def joinV (a b : Int) : Int × Option Int := if 0 ≤ a ∧ 0 ≤ b ∧ b < 1000000000 then (if a * 1000000000 + b < 18446744073709551616 then (a * 1000000000 + b, none) else (0, some 5)) else (0, some 1)
theorem add64s_is {x y : Int} (hx : 0 ≤ x) (hy : 0 ≤ y) : add64s x y = (x + y) % 18446744073709551616 := by unfold add64s; omega
theorem add64c_is {x y : Int} (hx : 0 ≤ x) (hy : 0 ≤ y) : add64c x y = (x + y) / 18446744073709551616 := by unfold add64c; omega
theorem join_bad (a b : Int) (h : ¬ (0 ≤ a ∧ 0 ≤ b ∧ b < 1000000000)) : Ev (fun k => steady_Join.j0 k a b true) (joinV a b) := by
  refine Ev.up ?_
  simp only [steady_Join.j0, if_true]
  unfold joinV
  rw [if_neg h]
  exact Ev.now _
theorem join_is (a b : Int) (ha : I64 a) (hb : I64 b) : Ev (fun k => steady_Join.f k a b) (joinV a b) := by
  unfold I64 at ha hb
  unfold steady_Join.f
  refine Ev.ite (fun q => join_bad a b (by omega)) (fun q1 => Ev.ite (fun q => join_bad a b (by omega)) (fun q2 => ?_))
  by_cases h : b ≥ 1000000000
  · rw [decide_eq_true h]; exact join_bad a b (by omega)
  · rw [decide_eq_false h]
    refine Ev.up ?_
    simp only [steady_Join.j0, Bool.false_eq_true, if_false]
    refine Ev.bindc (mul64_is _ _ (by rw [wrap_u64]; omega) (by decide)) ?_
    rw [show IntKind.u64.wrap a = a by rw [wrap_u64]; omega, show IntKind.u64.wrap b = b by rw [wrap_u64]; omega]
    simp only []
    rw [add64s_is (by omega) (by omega), add64c_is (by omega) (by omega), wrap_u64]
    have e : joinV a b = if a * 1000000000 + b < 18446744073709551616 then (a * 1000000000 + b, none) else (0, some 5) := by unfold joinV; exact if_pos (by omega)
    rw [e]
    clear e
    obtain ⟨p, hp, p0, p1⟩ : ∃ p, p = a * 1000000000 ∧ 0 ≤ p ∧ p ≤ 9223372036854775807000000000 := ⟨_, rfl, by omega, by omega⟩
    rw [← hp]
    clear hp ha q1
    have k1 : p / 18446744073709551616 + (p % 18446744073709551616 + b) / 18446744073709551616 = (p + b) / 18446744073709551616 := by omega
    have k2 : (p + b) / 18446744073709551616 % 18446744073709551616 = (p + b) / 18446744073709551616 := by clear k1; omega
    have k3 : (p % 18446744073709551616 + b) % 18446744073709551616 = (p + b) % 18446744073709551616 := by clear k1 k2; omega
    rw [k1, k2, k3]
    clear k1 k2 k3
    refine Ev.ite (fun q => ?_) (fun q => ?_)
    · rw [if_pos (by omega)]
      refine Ev.cast (Ev.now _) ?_
      congr 1; omega
    · rw [if_neg (by omega)]
      exact Ev.now _
theorem split_is (a : Int) (h0 : 0 ≤ a) (h : a < 18446744073709551616) : steady_Split.f a = some (a / 1000000000, a % 1000000000) := by
  unfold steady_Split.f
  rw [tdiv_is, tmod_is, if_neg (by omega), if_neg (by omega), wrap_u64]
  congr 2
  · rw [show a / 1000000000 % 18446744073709551616 = a / 1000000000 by omega]; exact wr (by omega)
  · exact wr (by omega)
theorem frac_is (a : Int) (ha : I64 a) : stamp_Fraction.f a = some (if 0 ≤ a ∧ a < 1000000000 then ((a * 4294967296 + 999999999) / 1000000000, none) else (0, some 1)) := by
  unfold I64 at ha
  unfold stamp_Fraction.f stamp_right.f
  by_cases h : 0 ≤ a ∧ a < 1000000000
  · rw [if_pos h, if_pos h.1]
    simp only [Option.bind_some, decide_eq_true h.2, if_true]
    rw [wrap_u64 a, wrap_u64 (a % 18446744073709551616 * 4294967296), wrap_u64 (a % 18446744073709551616 * 4294967296 % 18446744073709551616 + 1000000000), wrap_u64 ((a % 18446744073709551616 * 4294967296 % 18446744073709551616 + 1000000000) % 18446744073709551616 - 1)]
    rw [show ((a % 18446744073709551616 * 4294967296 % 18446744073709551616 + 1000000000) % 18446744073709551616 - 1) % 18446744073709551616 = a * 4294967296 + 999999999 by omega]
    rw [tdiv_is, if_neg (by omega), wrap_u64]
    congr 2; omega
  · rw [if_neg h]
    split
    · rw [decide_eq_false (by omega)]; rfl
    · rfl
theorem sof_is (t n : Int) (hn : I64 n) : stamp_Of.f t n = some (if 0 ≤ n ∧ n < 1000000000 then (t % 4294967296, (n * 4294967296 + 999999999) / 1000000000, none) else (0, 0, some 1)) := by
  unfold stamp_Of.f
  rw [frac_is n hn]
  simp only [Option.bind_some]
  by_cases h : 0 ≤ n ∧ n < 1000000000
  · simp only [if_pos h]; rfl
  · simp only [if_neg h]; rfl
theorem seconds_is (a : Int) (h0 : 0 ≤ a) (h : a < 18446744073709551616) : steady_Seconds.f a = some (a / 1000000000 + 2208988800) := by
  unfold steady_Seconds.f
  rw [split_is a h0 h]
  simp only [Option.bind_some]
  unfold stamp_FromPosix.f
  rw [add_is _ _ (by unfold I64; omega) (by unfold I64; omega), ovf_in (by unfold I64; omega)]
  rfl
theorem rfrac_is (a : Int) (h0 : 0 ≤ a) (h : a < 1000000000) : horologeref34_Fraction.f a = some ((a * 4294967296 + 999999999) / 1000000000) := by
  unfold horologeref34_Fraction.f
  rw [wrap_u64 (a * 4294967296), show a * 4294967296 % 18446744073709551616 = a * 4294967296 by omega]
  simp only [tdiv_is, if_neg (show ¬ a * 4294967296 < 0 by omega)]
  rw [wrap_u64 (a * 4294967296 / 1000000000), show a * 4294967296 / 1000000000 % 18446744073709551616 = a * 4294967296 / 1000000000 by omega]
  obtain ⟨F, hF, F0, F1⟩ : ∃ F, F = a * 4294967296 / 1000000000 ∧ 0 ≤ F ∧ F < 4294967296 := ⟨_, rfl, by omega, by omega⟩
  rw [← hF, wrap_u64 (F * 1000000000), wrap_u64 (F + 1), show F * 1000000000 % 18446744073709551616 = F * 1000000000 by omega, show (F + 1) % 18446744073709551616 = F + 1 by omega]
  have e : F * 1000000000 ≤ a * 4294967296 ∧ a * 4294967296 < F * 1000000000 + 1000000000 := by omega
  clear hF
  generalize a * 4294967296 = q at e ⊢
  split
  · have g : F + 1 = (q + 999999999) / 1000000000 := by omega
    rw [g]
  · have g : F = (q + 999999999) / 1000000000 := by omega
    rw [← g]
theorem rjoin_bad (a b : Int) (h : ¬ (0 ≤ a ∧ 0 ≤ b ∧ b < 1000000000)) : Ev (fun k => horologeref34_Join.j0 k a b true) (0, 1) := by
  refine Ev.up ?_
  simp only [horologeref34_Join.j0, if_true]
  exact Ev.now _
theorem rjoin_is (a b : Int) (ha : I64 a) (hb : I64 b) : Ev (fun k => horologeref34_Join.f k a b) (if 0 ≤ a ∧ 0 ≤ b ∧ b < 1000000000 then (if a * 1000000000 + b < 18446744073709551616 then (a * 1000000000 + b, 0) else (0, 5)) else (0, 1)) := by
  unfold I64 at ha hb
  unfold horologeref34_Join.f
  refine Ev.ite (fun q => by rw [if_neg (by omega)]; exact rjoin_bad a b (by omega)) (fun q1 => Ev.ite (fun q => by rw [if_neg (by omega)]; exact rjoin_bad a b (by omega)) (fun q2 => ?_))
  by_cases h : b > 999999999
  · rw [decide_eq_true h, if_neg (by omega)]; exact rjoin_bad a b (by omega)
  · rw [decide_eq_false h, if_pos (by omega)]
    refine Ev.up ?_
    simp only [horologeref34_Join.j0, Bool.false_eq_true, if_false]
    have e : a ≤ 18446744073 → IntKind.u64.wrap (IntKind.u64.wrap (IntKind.u64.wrap a * 1000000000) + IntKind.u64.wrap b) = (a * 1000000000 + b) % 18446744073709551616 := by
      intro q
      simp only [wrap_u64]
      omega
    refine Ev.ite (fun q => ?_) (fun q => Ev.ite (fun q' => Ev.ite (fun q'' => ?_) (fun q'' => ?_)) (fun q' => ?_))
    · rw [if_neg (by omega)]; exact Ev.now _
    · rw [if_neg (by omega)]; exact Ev.now _
    · rw [if_pos (by omega), e (by omega)]
      refine Ev.cast (Ev.now _) ?_
      congr 1; omega
    · rw [if_pos (by omega), e (by omega)]
      refine Ev.cast (Ev.now _) ?_
      congr 1; omega
theorem stamp_of (a : Int) (h0 : 0 ≤ a) (h : a < 18446744073709551616) : steady_Stamp.f a = some ((a / 1000000000 + 2208988800) % 4294967296, (a % 1000000000 * 4294967296 + 999999999) / 1000000000) := by
  unfold steady_Stamp.f
  rw [split_is a h0 h]
  simp only [Option.bind_some]
  rw [seconds_is a h0 h]
  simp only [Option.bind_some]
  rw [sof_is _ _ (by unfold I64; omega), if_pos (by omega)]
  rfl
end Go.Proofs.Ytpjognepdelocaa.MSteadySplits
namespace Go.Proofs.Ytpjognepdelocaa.Pure
open Go.RowKit Go.Proofs.Ytpjognepdelocaa.MSteadySplits Go.Proofs.YtpjognepdelocaaW.PrintWords Go.Proofs.YtpjognepdelocaaW.PrintLast Go.Proofs.Ytpjognepdelocaa.Base
set_option linter.unusedVariables false
set_option linter.unusedSimpArgs false
theorem SteadySplits : horologelaw34_SteadySplits.Pure := by
  intro a p n ha hp hn
  replace ha := bounds_u64 ha
  replace hp := i64_of hp
  replace hn := i64_of hn
  refine Ev.ok (g := fun k => horologelaw34_SteadySplits.f k a p n) ?_
  unfold horologelaw34_SteadySplits.f
  refine Ev.bindc alive_is (Ev.pos rfl (Ev.bindc (split_is a (by omega) (by omega)) ?_))
  simp only [tdiv_is, tmod_is, if_neg (show ¬ a < 0 by omega), wrap_u64]
  refine Ev.neg (by omega) (Ev.pos (by first | trivial | omega) (Ev.neg (by omega) ?_))
  rw [show (a % 1000000000 % 18446744073709551616 != a % 1000000000) = false by rw [show a % 1000000000 % 18446744073709551616 = a % 1000000000 by omega]; simp]
  refine Ev.up ?_
  simp only [horologelaw34_SteadySplits.j0, Bool.false_eq_true, if_false]
  refine Ev.bindc (seconds_is a (by omega) (by omega)) ?_
  simp only [tdiv_is, tmod_is, if_neg (show ¬ a < 0 by omega), wrap_u64]
  rw [show a / 1000000000 % 18446744073709551616 = a / 1000000000 by omega, show wrap64 (a / 1000000000) = a / 1000000000 from wr (by omega), show wrap64 (a / 1000000000 + 2208988800) = a / 1000000000 + 2208988800 from wr (by omega)]
  refine Ev.pos rfl (Ev.bind (ref_fold_is _ 32 (by decide) (by decide) (by unfold I64; omega)) (Ev.bindc (rfrac_is _ (by omega) (by omega)) (Ev.bindc (stamp_of a (by omega) (by omega)) (Ev.neg ?_ ?_))))
  · have e32 : (2 : Int) ^ (32 : Int).toNat = 4294967296 := by decide
    rw [e32, show (a / 1000000000 + 2208988800) % 4294967296 % 4294967296 = (a / 1000000000 + 2208988800) % 4294967296 by omega, show (a % 1000000000 * 4294967296 + 999999999) / 1000000000 % 4294967296 = (a % 1000000000 * 4294967296 + 999999999) / 1000000000 by omega]
    simp
  · refine Ev.bind (join_is p n hp hn) (Ev.bind (rjoin_is p n hp hn) ?_)
    unfold joinV
    by_cases h : 0 ≤ p ∧ 0 ≤ n ∧ n < 1000000000
    · simp only [if_pos h]
      by_cases k : p * 1000000000 + n < 18446744073709551616
      · simp only [if_pos k]
        exact Ev.pos trivial (Ev.bindc (num_is _) (Ev.now _))
      · simp only [if_neg k]
        exact Ev.pos trivial (Ev.bindc (num_is _) (Ev.now _))
    · simp only [if_neg h]
      exact Ev.pos trivial (Ev.bindc (num_is _) (Ev.now _))
end Go.Proofs.Ytpjognepdelocaa.Pure
