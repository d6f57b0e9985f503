/- What powers of 2 answer, as numbers of any size. No condition but that the rows are short. -/
import Derived.Test.YtcjmanlcogeikaaTEraBitsBig2
namespace Go.Proofs.Ytcjmanlcogeikaa.MEraBits
open Go.RowKit Go.Proofs.YtcjmanlcogeikaaW.PrintWords Go.Proofs.YtcjmanlcogeikaaW.PrintLast Go.Proofs.YtcjmanlcogeikaaW.PrintMore Go.Proofs.Ytcjmanlcogeikaa.Base
set_option linter.unusedVariables false
set_option linter.unusedSimpArgs false

theorem Power_l0 (n : Int) (hn : n ≤ 100) (m : Nat) : ∀ (i : Nat) (b : Bool × List Int), (i : Int) + m = n → Is b (2 ^ i) (i + 4) →
    ∃ r, Ev (fun k => horologeref13_Power.l0 k n i b.1 b.2) r ∧ Is r (2 ^ n.toNat) 104 := by
  induction m with
  | zero =>
    intro i b hi hb
    refine ⟨b, Ev.up ?_, ?_⟩
    · simp only [horologeref13_Power.l0]; exact Ev.neg (by omega) (Ev.now _)
    · rw [show n.toNat = i by omega]; exact hb.mono (by omega)
  | succ m ih =>
    intro i b hi hb
    obtain ⟨q, q1, q2⟩ := Plus_is hb hb (by omega) (by omega)
    rw [show (2 : Int) ^ i + 2 ^ i = 2 ^ (i + 1) by rw [pow_succ2]; omega] at q2
    obtain ⟨r, r1, r2⟩ := ih (i + 1) q (by omega) (q2.mono (by omega))
    refine ⟨r, Ev.up ?_, r2⟩
    simp only [horologeref13_Power.l0, show wrap64 ((i : Int) + 1) = ((i + 1 : Nat) : Int) by rw [wrap64_id (by unfold I64; omega)]; omega]
    exact Ev.pos (by omega) (Ev.bind q1 r1)
theorem Power_is (n : Int) (h0 : 0 ≤ n) (hn : n ≤ 100) : ∃ r, Ev (fun k => horologeref13_Power.f k n) r ∧ Is r (2 ^ n.toNat) 104 := by
  obtain ⟨o, o1, o2⟩ := Of_is 1 (by unfold I64; omega)
  obtain ⟨r, r1, r2⟩ := Power_l0 n hn n.toNat 0 o (by omega) (by simpa using o2)
  exact ⟨r, Ev.bind o1 r1, r2⟩
end Go.Proofs.Ytcjmanlcogeikaa.MEraBits
