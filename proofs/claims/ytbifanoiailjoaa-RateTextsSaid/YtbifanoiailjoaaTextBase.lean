/- Texts as rows of numbers: plain facts. No condition. -/
import Derived.Test.YtbifanoiailjoaaBase
import Derived.Laws.BytesArg
namespace Go.Proofs.Ytbifanoiailjoaa.Base
open Go.RowKit Go.Proofs.YtbifanoiailjoaaW.PrintWords Go.Proofs.YtbifanoiailjoaaW.PrintLast Go.Proofs.YtbifanoiailjoaaW.PrintMore
set_option linter.unusedVariables false
set_option linter.unusedSimpArgs false

theorem son_append (a b : List Int) : strOfNums a ++ strOfNums b = strOfNums (a ++ b) := by
  unfold strOfNums
  rw [List.map_append]
  apply ByteArray.ext
  simp [ByteArray.data_append]
theorem son_size (a : List Int) : (strOfNums a).size = a.length := by simp [strOfNums, ByteArray.size]
/-- The figures of a number, the lowest first. -/
def digs : Nat → List Int
  | 0 => []
  | n + 1 => (48 + ((n + 1 : Nat) : Int) % 10) :: digs ((n + 1) / 10)
termination_by n => n
decreasing_by omega
theorem digs_pos {n : Nat} (h : 0 < n) : digs n = (48 + (n : Int) % 10) :: digs (n / 10) := by
  obtain ⟨m, rfl⟩ : ∃ m, n = m + 1 := ⟨n - 1, by omega⟩
  rw [digs]
theorem digs_zero : digs 0 = [] := by rw [digs]
theorem digs_len (n : Nat) (k : Nat) (h : n < 10 ^ k) : (digs n).length ≤ k := by
  induction k generalizing n with
  | zero =>
    have : n = 0 := by simpa using h
    subst this; rw [digs_zero]; simp
  | succ k ih =>
    by_cases hn : n = 0
    · subst hn; rw [digs_zero]; simp
    · rw [digs_pos (by omega)]
      have := ih (n / 10) (by rw [Nat.pow_succ] at h; omega)
      simp; omega
theorem digs_rng (n : Nat) : ∀ x ∈ digs n, 48 ≤ x ∧ x ≤ 57 := by
  induction n using Nat.strongRecOn with
  | ind n ih =>
    intro x hx
    by_cases hn : n = 0
    · subst hn; rw [digs_zero] at hx; cases hx
    · rw [digs_pos (by omega)] at hx
      rcases List.mem_cons.mp hx with h | h
      · subst h; omega
      · exact ih (n / 10) (by omega) x h
/-- The text of a number, at least so wide. -/
def rawV (n w : Nat) : List Int := List.replicate (max w 1 - (digs n).length) 48 ++ (digs n).reverse
theorem rawV_len (n w : Nat) : (rawV n w).length = max (max w 1) (digs n).length := by unfold rawV; simp; omega
end Go.Proofs.Ytbifanoiailjoaa.Base
