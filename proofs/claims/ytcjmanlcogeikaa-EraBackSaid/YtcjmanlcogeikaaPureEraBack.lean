/- EraBack: what is near the pivot is folded and unfolded as it was, and what isn't comes to another number near it, folded alike. For every t, pivot and bits of Go's kinds; no further condition. -/
import Derived.Test.YtcjmanlcogeikaaTEraBack
namespace Go.Proofs.Ytcjmanlcogeikaa.Pure
open Go.RowKit Go.Proofs.Ytcjmanlcogeikaa.MEraBack Go.Proofs.YtcjmanlcogeikaaW.PrintWords Go.Proofs.YtcjmanlcogeikaaW.PrintLast Go.Proofs.Ytcjmanlcogeikaa.Base
set_option linter.unusedVariables false
set_option linter.unusedSimpArgs false

theorem back_eq (t p : Int) (n : Nat) (h : 1 ≤ n) : ∃ q, p + near (t % 2 ^ n - p) n = t - 2 ^ n * q := by
  obtain ⟨q, e⟩ := near_mod (t % 2 ^ n - p) n
  have d := Int.emod_def t (2 ^ n)
  exact ⟨t / 2 ^ n + q, by rw [e, Int.mul_add]; omega⟩
theorem back_near (t p : Int) (n : Nat) (h : 1 ≤ n) (h1 : -(2 ^ (n - 1)) ≤ t - p) (h2 : t - p < 2 ^ (n - 1)) : p + near (t % 2 ^ n - p) n = t := by
  have d := Int.emod_def t (2 ^ n)
  rw [near_uniq (y := t - p) h (-(t / 2 ^ n)) (by rw [Int.mul_neg]; omega) h1 h2]
  omega
theorem EraBack : horologelaw13_EraBack.Pure := by
  intro t p n ht hp hn
  replace ht := i64_of ht
  replace hp := i64_of hp
  replace hn := i64_of hn
  refine Ev.ok (g := fun k => horologelaw13_EraBack.f k t p n) ?_
  unfold horologelaw13_EraBack.f
  refine Ev.bind alive_is ?_
  simp only [if_true]
  refine Ev.bindc (fold_is t n) ?_
  refine Ev.bindc (near_is t p n ht hp) ?_
  by_cases hr : 1 ≤ n ∧ n ≤ 62
  · simp only [if_pos hr, Option.isNone_none, if_true]
    refine Ev.up ?_
    simp only [horologelaw13_EraBack.j0, Bool.false_eq_true, if_false]
    have p62 := pow62 (n := n.toNat) (by omega)
    have pp := pow_pos2 n.toNat
    have b0 := Int.emod_nonneg t (Int.ne_of_gt pp)
    have b1 := Int.emod_lt_of_pos t pp
    refine Ev.bind (Ev.cast (bits_is (t % 2 ^ n.toNat) n p (by omega) hn hp) (if_pos ⟨hr.1, hr.2, b1⟩)) ?_
    refine Ev.ite (fun hnear => ?_) (fun hnear => ?_)
    · have hn2 := of_decide_eq_true hnear
      rw [back_near t p n.toNat (by omega) hn2.1 hn2.2, ovf_in ht]
      simp only [Option.isNone_none, if_true, BEq.rfl]
      exact Ev.now _
    · have hn2 : ¬ (-(2 ^ (n.toNat - 1)) ≤ t - p ∧ t - p < 2 ^ (n.toNat - 1)) := fun h => hnear (decide_eq_true h)
      obtain ⟨q, hq⟩ := back_eq t p n.toNat (by omega)
      have nb := near_bd (t % 2 ^ n.toNat - p) (n := n.toNat) (by omega)
      generalize near (t % 2 ^ n.toNat - p) n.toNat = b at *
      by_cases hi : I64 (p + b)
      · rw [ovf_in hi]
        simp only [Option.isNone_none, if_true]
        refine Ev.bindc (near_is _ p n hi hp) ?_
        refine Ev.bindc (fold_is _ n) ?_
        simp only [if_pos hr, Option.isNone_none, if_true]
        rw [if_pos (decide_eq_true (by omega)), if_neg (by omega)]
        have e : (p + b) % 2 ^ n.toNat = t % 2 ^ n.toNat := by
          rw [hq, Int.sub_emod, Int.mul_emod_right, Int.sub_zero, Int.emod_emod]
        rw [e]
        simp only [BEq.rfl]
        exact Ev.now _
      · rw [ovf_out hi]
        simp only [Option.isNone_some, Bool.false_eq_true, if_false, if_true]
        unfold horologenum_Is.f
        rw [num_is]
        exact Ev.now _
  · simp only [if_neg hr, Option.isNone_some, Bool.false_eq_true, if_false]
    refine Ev.up ?_
    simp only [horologelaw13_EraBack.j0, if_true, Option.isNone_some, Bool.false_eq_true, if_false]
    refine Ev.ite (fun _ => Ev.now _) (fun h => ?_)
    rw [if_pos (by omega)]
    exact Ev.now _
end Go.Proofs.Ytcjmanlcogeikaa.Pure
