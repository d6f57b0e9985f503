/- SteadyBack: what is told never falls, and Split and Join undo one another. For every input of Go's kinds; no further condition. -/
import Derived.Test.YtpjognepdelocaaMSteadyBackx
import Derived.Test.YtpjognepdelocaaBase
namespace Go.Proofs.Ytpjognepdelocaa.MSteadyBack
open Go.RowKit Go.Proofs.YtpjognepdelocaaW.PrintWords Go.Proofs.YtpjognepdelocaaW.PrintLast Go.Proofs.YtpjognepdelocaaW.PrintMore Go.Proofs.Ytpjognepdelocaa.Base
set_option linter.unusedVariables false
set_option linter.unusedSimpArgs false

theorem alive_is : horologelaw34_alive.f = some true := by kernel_rfl
theorem and32 {x : Int} (h0 : 0 ≤ x) (h : x < 18446744073709551616) : Go.bits .and .u64 x 4294967295 = x % 4294967296 := and_mask h0 h (n := 32) (by decide)
theorem mul64_is (a b : Int) (ha : 0 ≤ a ∧ a < 18446744073709551616) (hb : 0 ≤ b ∧ b < 18446744073709551616) :
    bits_Mul64.f a b = some (a * b / 18446744073709551616, a * b % 18446744073709551616) := by
  unfold bits_Mul64.f
  rw [and32 ha.1 ha.2, and32 hb.1 hb.2]
  have hp : ∀ x y : Int, 0 ≤ x → x ≤ 4294967295 → 0 ≤ y → y ≤ 4294967295 → 0 ≤ x * y ∧ x * y ≤ 18446744065119617025 := fun x y h1 h2 h3 h4 =>
    ⟨Int.mul_nonneg h1 h3, by have := Int.mul_le_mul h2 h4 h3 (by decide); omega⟩
  have e : a * b = 18446744073709551616 * ((a / 4294967296) * (b / 4294967296)) + 4294967296 * ((a / 4294967296) * (b % 4294967296) + (a % 4294967296) * (b / 4294967296)) + (a % 4294967296) * (b % 4294967296) := by
    have ea : a = 4294967296 * (a / 4294967296) + a % 4294967296 := by omega
    have eb : b = 4294967296 * (b / 4294967296) + b % 4294967296 := by omega
    generalize a / 4294967296 = a1 at *
    generalize a % 4294967296 = a0 at *
    generalize b / 4294967296 = b1 at *
    generalize b % 4294967296 = b0 at *
    subst ea eb
    simp only [Int.mul_add, Int.add_mul, Int.mul_assoc, Int.mul_left_comm a1 4294967296, Int.mul_left_comm a0 4294967296]
    omega
  have h11 := hp (a / 4294967296) (b / 4294967296) (by omega) (by omega) (by omega) (by omega)
  have h10 := hp (a / 4294967296) (b % 4294967296) (by omega) (by omega) (by omega) (by omega)
  have h01 := hp (a % 4294967296) (b / 4294967296) (by omega) (by omega) (by omega) (by omega)
  have h00 := hp (a % 4294967296) (b % 4294967296) (by omega) (by omega) (by omega) (by omega)
  rw [e]
  clear hp e
  generalize (a / 4294967296) * (b / 4294967296) = p11 at *
  generalize (a / 4294967296) * (b % 4294967296) = p10 at *
  generalize (a % 4294967296) * (b / 4294967296) = p01 at *
  generalize (a % 4294967296) * (b % 4294967296) = p00 at *
  clear ha hb
  have w11 : IntKind.u64.wrap p11 = p11 := by rw [wrap_u64]; omega
  have w10 : IntKind.u64.wrap p10 = p10 := by rw [wrap_u64]; omega
  have w01 : IntKind.u64.wrap p01 = p01 := by rw [wrap_u64]; omega
  have w00 : IntKind.u64.wrap p00 = p00 := by rw [wrap_u64]; omega
  have wt : IntKind.u64.wrap (p10 + p00 / 4294967296) = p10 + p00 / 4294967296 := by rw [wrap_u64]; omega
  rw [w11, w10, w01, w00, wt, and32 (by omega) (by omega)]
  rw [wrap_u64, wrap_u64, wrap_u64, wrap_u64]
  congr 2
  omega
theorem num_is (e : Option Int) : horologenum_Num.f e = some (match e with | none => 0 | some c => if c = 0 then -1 else c) := by
  unfold horologenum_Num.f
  cases e <;> simp
  split <;> rfl
/-- Seconds and nanoseconds, joined to a reading. -/
def joinV (a b : Int) : Int × Option Int := if 0 ≤ a ∧ 0 ≤ b ∧ b < 1000000000 then (if a * 1000000000 + b < 18446744073709551616 then (a * 1000000000 + b, none) else (0, some 5)) else (0, some 1)
theorem add64s_is {x y : Int} (hx : 0 ≤ x) (hy : 0 ≤ y) : add64s x y = (x + y) % 18446744073709551616 := by unfold add64s; omega
theorem add64c_is {x y : Int} (hx : 0 ≤ x) (hy : 0 ≤ y) : add64c x y = (x + y) / 18446744073709551616 := by unfold add64c; omega
theorem join_bad (a b : Int) (h : ¬ (0 ≤ a ∧ 0 ≤ b ∧ b < 1000000000)) : Ev (fun k => steady_Join.j0 k a b true) (joinV a b) := by
  refine Ev.up ?_
  simp only [steady_Join.j0, if_true]
  unfold joinV
  rw [if_neg h]
  exact Ev.now _
theorem join_is (a b : Int) (ha : I64 a) (hb : I64 b) : Ev (fun k => steady_Join.f k a b) (joinV a b) := by
  unfold I64 at ha hb
  unfold steady_Join.f
  refine Ev.ite (fun q => join_bad a b (by omega)) (fun q1 => Ev.ite (fun q => join_bad a b (by omega)) (fun q2 => ?_))
  by_cases h : b ≥ 1000000000
  · rw [decide_eq_true h]; exact join_bad a b (by omega)
  · rw [decide_eq_false h]
    refine Ev.up ?_
    simp only [steady_Join.j0, Bool.false_eq_true, if_false]
    refine Ev.bindc (mul64_is _ _ (by rw [wrap_u64]; omega) (by decide)) ?_
    rw [show IntKind.u64.wrap a = a by rw [wrap_u64]; omega, show IntKind.u64.wrap b = b by rw [wrap_u64]; omega]
    simp only []
    rw [add64s_is (by omega) (by omega), add64c_is (by omega) (by omega), wrap_u64]
    have e : joinV a b = if a * 1000000000 + b < 18446744073709551616 then (a * 1000000000 + b, none) else (0, some 5) := by unfold joinV; exact if_pos (by omega)
    rw [e]
    clear e
    obtain ⟨p, hp, p0, p1⟩ : ∃ p, p = a * 1000000000 ∧ 0 ≤ p ∧ p ≤ 9223372036854775807000000000 := ⟨_, rfl, by omega, by omega⟩
    rw [← hp]
    clear hp ha q1
    have k1 : p / 18446744073709551616 + (p % 18446744073709551616 + b) / 18446744073709551616 = (p + b) / 18446744073709551616 := by omega
    have k2 : (p + b) / 18446744073709551616 % 18446744073709551616 = (p + b) / 18446744073709551616 := by clear k1; omega
    have k3 : (p % 18446744073709551616 + b) % 18446744073709551616 = (p + b) % 18446744073709551616 := by clear k1 k2; omega
    rw [k1, k2, k3]
    clear k1 k2 k3
    refine Ev.ite (fun q => ?_) (fun q => ?_)
    · rw [if_pos (by omega)]
      refine Ev.cast (Ev.now _) ?_
      congr 1; omega
    · rw [if_neg (by omega)]
      exact Ev.now _
theorem split_is (a : Int) (h0 : 0 ≤ a) (h : a < 18446744073709551616) : steady_Split.f a = some (a / 1000000000, a % 1000000000) := by
  unfold steady_Split.f
  rw [tdiv_is, tmod_is, if_neg (by omega), if_neg (by omega), wrap_u64]
  congr 2
  · rw [show a / 1000000000 % 18446744073709551616 = a / 1000000000 by omega]; exact wr (by omega)
  · exact wr (by omega)
theorem since_le (a b : Int) (h0 : 0 ≤ a) (h : a ≤ b) (hb : b < 18446744073709551616) : steady_Since.f a b = some (b - a, none) := by
  unfold steady_Since.f
  rw [if_neg (by omega), wrap_u64, show (b - a) % 18446744073709551616 = b - a by omega]
theorem since_gt (a b : Int) (h : b < a) : steady_Since.f a b = some (0, some 6) := by
  unfold steady_Since.f
  rw [if_pos h]
theorem rd_mem {l : List Int} {i : Nat} (h : i < l.length) : rd l i ∈ l := by
  unfold rd
  simp [List.getD_eq_getElem?_getD, h]
theorem back_is (p n : Int) (hp : I64 p) (hn : I64 n) (x8 : Int) (l : List Int) (s0 s1 s2 : Int) : Ev (fun k => horologelaw34_SteadyBack.l0 k p n x8 l l.length l.length s0 s1 s2) true := by
  refine Ev.up ?_
  simp only [horologelaw34_SteadyBack.l0]
  refine Ev.neg (by omega) (Ev.bind (join_is p n hp hn) ?_)
  unfold joinV
  by_cases h : 0 ≤ p ∧ 0 ≤ n ∧ n < 1000000000
  · simp only [if_pos h]
    by_cases k : p * 1000000000 + n < 18446744073709551616
    · simp only [if_pos k]
      refine Ev.pos rfl (Ev.bindc (split_is _ (by omega) k) ?_)
      rw [show (p * 1000000000 + n) / 1000000000 = p by omega, show (p * 1000000000 + n) % 1000000000 = n by omega]
      exact Ev.pos rfl (Ev.cast (Ev.now _) (by simp))
    · simp only [if_neg k]
      exact Ev.neg (by decide) (Ev.now _)
  · simp only [if_neg h]
    exact Ev.neg (by decide) (Ev.now _)
theorem loop_is (p n : Int) (hp : I64 p) (hn : I64 n) (l : List Int) (hl : l.length ≤ 300) (hw : ∀ x ∈ l, 0 ≤ x ∧ x ≤ 18446744073709551615) (m : Nat) :
    ∀ (i : Nat) (s0 s1 s2 : Int), i + m = l.length → 0 ≤ s0 → s0 ≤ 18446744073709551615 → Ev (fun k => horologelaw34_SteadyBack.l0 k p n s0 l l.length i s0 s1 s2) true := by
  induction m with
  | zero =>
    intro i s0 s1 s2 hi _ _
    rw [show i = l.length by omega]
    exact back_is p n hp hn s0 l s0 s1 s2
  | succ m ih =>
    intro i s0 s1 s2 hi h0 h1
    have hr := hw _ (rd_mem (show i < l.length by omega))
    refine Ev.up ?_
    simp only [horologelaw34_SteadyBack.l0]
    refine Ev.pos (by omega) (Ev.pos (by omega) (Ev.pos (by omega) ?_))
    have tail : ∀ (t u v : Int), s0 ≤ t → t ≤ 18446744073709551615 → Ev (fun k => horologelaw34_SteadyBack.j1 k p n s0 (rd l i) t l l.length i false t u v) true := by
      intro t u v ht ht2
      refine Ev.up ?_
      simp only [horologelaw34_SteadyBack.j1, Bool.false_eq_true, if_false]
      refine Ev.bindc (since_le s0 t h0 ht (by omega)) (Ev.pos rfl ?_)
      rw [show (t - s0 != IntKind.u64.wrap (t - s0)) = false by rw [wrap_u64, show (t - s0) % 18446744073709551616 = t - s0 by omega]; simp]
      refine Ev.up ?_
      simp only [horologelaw34_SteadyBack.j2, Bool.false_eq_true, if_false]
      have j3 : Ev (fun k => horologelaw34_SteadyBack.j3 k p n (rd l i) t l l.length i false t u v) true := by
        refine Ev.up ?_
        simp only [horologelaw34_SteadyBack.j3, Bool.false_eq_true, if_false]
        refine Ev.bindc (split_is _ hr.1 (by omega)) (Ev.bind (join_is _ _ (by unfold I64; omega) (by unfold I64; omega)) ?_)
        unfold joinV
        simp only [if_pos (show 0 ≤ rd l i / 1000000000 ∧ 0 ≤ rd l i % 1000000000 ∧ rd l i % 1000000000 < 1000000000 by omega)]
        simp only [if_pos (show rd l i / 1000000000 * 1000000000 + rd l i % 1000000000 < 18446744073709551616 by omega)]
        refine Ev.pos rfl (Ev.pos (by omega) ?_)
        rw [show wrap64 ((i : Int) + 1) = ((i + 1 : Nat) : Int) from wr (by omega)]
        exact ih (i + 1) t u v (by omega) (by omega) ht2
      by_cases q : t > s0
      · refine Ev.bindc (since_gt t s0 q) (Ev.pos q (Ev.pos rfl (Ev.bindc (a := true) ?_ j3)))
        unfold horologenum_Is.f
        rw [num_is]; rfl
      · refine Ev.bindc (since_le t s0 (by omega) (by omega) (by omega)) (Ev.neg q j3)
    unfold steady_Clock_Read.f
    by_cases q : rd l i < s0
    · refine Ev.bindc (if_pos q) (Ev.neg (by simp) (Ev.neg (by simp; omega) ?_))
      rw [show (true != decide (s0 > rd l i)) = false by rw [decide_eq_true (show s0 > rd l i from q)]; rfl]
      exact tail _ _ _ (by omega) h1
    · refine Ev.bindc (if_neg q) (Ev.neg (by simpa using q) (Ev.neg (by simp) ?_))
      rw [show (false != decide (rd l i > rd l i)) = false by rw [decide_eq_false (by omega)]; rfl]
      exact tail _ _ _ (by omega) (by omega)
end Go.Proofs.Ytpjognepdelocaa.MSteadyBack
namespace Go.Proofs.Ytpjognepdelocaa.Pure
open Go.RowKit Go.Proofs.Ytpjognepdelocaa.MSteadyBack Go.Proofs.YtpjognepdelocaaW.PrintWords Go.Proofs.YtpjognepdelocaaW.PrintLast Go.Proofs.Ytpjognepdelocaa.Base
set_option linter.unusedVariables false
set_option linter.unusedSimpArgs false
theorem SteadyBack : horologelaw34_SteadyBack.Pure := by
  intro l p n hl hl2 hw hp hn
  refine Ev.ok (g := fun k => horologelaw34_SteadyBack.f k l p n) ?_
  unfold horologelaw34_SteadyBack.f
  refine Ev.bindc alive_is (Ev.pos rfl (Ev.ite (fun _ => Ev.now _) (fun h => ?_)))
  refine Ev.bindc (show steady_New.f = some (0, 0, 0) from rfl) ?_
  exact loop_is p n (i64_of hp) (i64_of hn) l (by omega) (fun x hx => bounds_u64 (hw x hx)) l.length 0 0 0 0 (by omega) (by decide) (by decide)
end Go.Proofs.Ytpjognepdelocaa.Pure
