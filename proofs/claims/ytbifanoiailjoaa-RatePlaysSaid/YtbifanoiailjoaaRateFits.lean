/- Room and span: whether they fit. -/
import Derived.Test.YtbifanoiailjoaaRateMid
namespace Go.Proofs.Ytbifanoiailjoaa.MRatePlays
open Go.RowKit Go.Proofs.YtbifanoiailjoaaW.PrintWords Go.Proofs.YtbifanoiailjoaaW.PrintLast Go.Proofs.YtbifanoiailjoaaW.PrintMore Go.Proofs.Ytbifanoiailjoaa.Base
set_option linter.unusedVariables false
set_option linter.unusedSimpArgs false

theorem fits_ok (w : World) (room span : Int) (h : 1 ≤ room ∧ room ≤ 1024 ∧ 0 ≤ span ∧ span ≤ 4611686018427387904) : Calls Try.prog 34 #[.int .i64 room, .int .i64 span] w fun e w' => e = .returned Value.nilIface ∧ Below w.heap.size w w' := by
  refine (rate_fits.calls 1 room span none w ?_).mono ?_
  · unfold rate_fits.f
    rw [if_neg (by omega), if_neg (by omega), if_neg (by omega)]
    have : decide (span > 4611686018427387904) = false := decide_eq_false (by omega)
    rw [this]
    rfl
  · rintro e w' ⟨rfl, n, rfl⟩
    exact ⟨rfl, pw_below_drewN (Below.refl _ _) n⟩
theorem fits_bad (w : World) (room span : Int) (h : ¬ (1 ≤ room ∧ room ≤ 1024 ∧ 0 ≤ span ∧ span ≤ 4611686018427387904)) : Calls Try.prog 34 #[.int .i64 room, .int .i64 span] w fun e w' => e = .returned (.iface 49 (.int .i64 1)) ∧ Below w.heap.size w w' := by
  refine (rate_fits.calls 1 room span (some 1) w ?_).mono ?_
  · unfold rate_fits.f
    by_cases h1 : room < 1
    · rw [if_pos h1]; rfl
    · rw [if_neg h1]
      by_cases h2 : room > 1024
      · rw [if_pos h2]; rfl
      · rw [if_neg h2]
        by_cases h3 : span < 0
        · rw [if_pos h3]; rfl
        · have : decide (span > 4611686018427387904) = true := decide_eq_true (by omega)
          rw [if_neg h3, this]; rfl
  · rintro e w' ⟨rfl, n, rfl⟩
    exact ⟨rfl, pw_below_drewN (Below.refl _ _) n⟩
end Go.Proofs.Ytbifanoiailjoaa.MRatePlays
