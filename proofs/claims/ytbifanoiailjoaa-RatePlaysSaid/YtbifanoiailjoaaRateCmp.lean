/- Keys that are texts, compared; two entries by their age. -/
import Derived.Test.YtbifanoiailjoaaMRatePlaysx1
import Derived.Test.YtbifanoiailjoaaMRatePlaysx2
import Derived.Test.YtbifanoiailjoaaBase
namespace Go.Proofs.Ytbifanoiailjoaa.MRatePlays
open Go.RowKit Go.Proofs.YtbifanoiailjoaaW.PrintWords Go.Proofs.YtbifanoiailjoaaW.PrintLast Go.Proofs.YtbifanoiailjoaaW.PrintMore Go.Proofs.Ytbifanoiailjoaa.Base
set_option linter.unusedVariables false
set_option linter.unusedSimpArgs false

theorem nan_s (a : ByteArray) : cmp_isNaN_string.f a = some false := by unfold cmp_isNaN_string.f; simp
theorem bless_tri : ∀ x y : List UInt8, (!(Op.bytesLess x y || x == y)) = Op.bytesLess y x
  | [], [] => rfl
  | [], b :: y => rfl
  | a :: x, [] => rfl
  | a :: x, b :: y => by
    have ih := bless_tri x y
    simp only [Op.bytesLess]
    by_cases h : a < b
    · have h2 : ¬ b < a := fun q => by rw [UInt8.lt_iff_toNat_lt] at h q; omega
      have h3 : ¬ b = a := fun q => by rw [UInt8.lt_iff_toNat_lt, q] at h; omega
      simp [h, h2, h3]
    · by_cases e : a = b
      · subst e
        simp only [h, decide_false, Bool.false_or, BEq.rfl, Bool.true_and]
        rw [← ih]
        simp
      · have h2 : b < a := by rw [UInt8.lt_iff_toNat_lt] at h ⊢; have hne : a.toNat ≠ b.toNat := fun q => e (UInt8.toNat_inj.1 q); omega
        simp [h, h2, e]
theorem gtr_s (w : World) (a b : ByteArray) : (binOp .gtr 9 (.string a) (.string b)).run Try.prog w = .ok (.bool (Op.bytesLess b.toList a.toList)) w := by
  rw [← bless_tri]
  unfold binOp
  simp [Sem.run_bind, run_underlying Try.underlying9, Op.stringOp]
set_option maxHeartbeats 4000000 in
set_option maxRecDepth 100000 in
theorem cmps_c (w : World) (a b : ByteArray) : Calls Try.prog 63 #[.string a, .string b] w fun e w' => e = .returned (.int .i64 (if Op.bytesLess a.toList b.toList = true then -1 else if Op.bytesLess b.toList a.toList = true then 1 else 0)) ∧ Drawn0 w w' := by
  cases h1 : Op.bytesLess a.toList b.toList with
  | true =>
    simp only [if_true]
    go_enter Try.func63, Try.ntmps63
    go_wp2_with (first | (go_at_call 72; refine (cmp_isNaN_string.calls _ false _ (nan_s _)).mono ?_; rintro e_ w1 ⟨rfl, n_, rfl⟩) | fail)
    go_ret
    exact ⟨rfl, _, rfl⟩
  | false =>
    simp only [Bool.false_eq_true, if_false]
    have hg := fun W => gtr_s W a b
    cases h2 : Op.bytesLess b.toList a.toList with
    | true =>
      rw [h2] at hg
      simp only [if_true]
      go_enter Try.func63, Try.ntmps63
      go_wp2_with (first | (go_at_call 72; refine (cmp_isNaN_string.calls _ false _ (nan_s _)).mono ?_; rintro e_ w1 ⟨rfl, n_, rfl⟩) | fail)
      go_ret
      exact ⟨rfl, _, rfl⟩
    | false =>
      rw [h2] at hg
      simp only [Bool.false_eq_true, if_false]
      go_enter Try.func63, Try.ntmps63
      go_wp2_with (first | (go_at_call 72; refine (cmp_isNaN_string.calls _ false _ (nan_s _)).mono ?_; rintro e_ w1 ⟨rfl, n_, rfl⟩) | fail)
      go_ret
      exact ⟨rfl, _, rfl⟩
end Go.Proofs.Ytbifanoiailjoaa.MRatePlays
