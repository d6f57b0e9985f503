/- Texts as rows of numbers: plain facts. No condition. -/
import Derived.Test.YtnjeemghkpgcfaaBase
import Derived.Laws.BytesArg
namespace Go.Proofs.Ytnjeemghkpgcfaa.Base
open Go.RowKit Go.Proofs.YtnjeemghkpgcfaaW.PrintWords Go.Proofs.YtnjeemghkpgcfaaW.PrintLast Go.Proofs.YtnjeemghkpgcfaaW.PrintMore
set_option linter.unusedVariables false
set_option linter.unusedSimpArgs false

theorem son_append (a b : List Int) : strOfNums a ++ strOfNums b = strOfNums (a ++ b) := by
  unfold strOfNums
  rw [List.map_append]
  apply ByteArray.ext
  simp [ByteArray.data_append]
theorem son_size (a : List Int) : (strOfNums a).size = a.length := by simp [strOfNums, ByteArray.size]
/-- The figures of a number, the lowest first. -/
def digs : Nat → List Int
  | 0 => []
  | n + 1 => (48 + ((n + 1 : Nat) : Int) % 10) :: digs ((n + 1) / 10)
termination_by n => n
decreasing_by omega
theorem digs_pos {n : Nat} (h : 0 < n) : digs n = (48 + (n : Int) % 10) :: digs (n / 10) := by
  obtain ⟨m, rfl⟩ : ∃ m, n = m + 1 := ⟨n - 1, by omega⟩
  rw [digs]
theorem digs_zero : digs 0 = [] := by rw [digs]
theorem digs_len (n : Nat) (k : Nat) (h : n < 10 ^ k) : (digs n).length ≤ k := by
  induction k generalizing n with
  | zero =>
    have : n = 0 := by simpa using h
    subst this; rw [digs_zero]; simp
  | succ k ih =>
    by_cases hn : n = 0
    · subst hn; rw [digs_zero]; simp
    · rw [digs_pos (by omega)]
      have := ih (n / 10) (by rw [Nat.pow_succ] at h; omega)
      simp; omega
theorem digs_rng (n : Nat) : ∀ x ∈ digs n, 48 ≤ x ∧ x ≤ 57 := by
  induction n using Nat.strongRecOn with
  | ind n ih =>
    intro x hx
    by_cases hn : n = 0
    · subst hn; rw [digs_zero] at hx; cases hx
    · rw [digs_pos (by omega)] at hx
      rcases List.mem_cons.mp hx with h | h
      · subst h; omega
      · exact ih (n / 10) (by omega) x h
/-- The text of a number, at least so wide. -/
def rawV (n w : Nat) : List Int := List.replicate (max w 1 - (digs n).length) 48 ++ (digs n).reverse
theorem rawV_len (n w : Nat) : (rawV n w).length = max (max w 1) (digs n).length := by unfold rawV; simp; omega
theorem snoc_rep (a : List Int) (n : Nat) : a ++ [48] ++ List.replicate n 48 = a ++ List.replicate (n + 1) 48 := by
  rw [List.append_assoc]; rfl
theorem rd_lt {l : List Int} {i : Nat} (h : i < l.length) : rd l i = l[i] := by unfold rd; simp [h]
/-- A row whose places are those of another one from the end on is that one turned round. -/
theorem rev_of {x l : List Int} (hl : x.length = l.length) (h : ∀ t : Nat, t < l.length → rd x t = rd l ((l.length - 1 - t : Nat) : Int)) : x = l.reverse := by
  apply List.ext_getElem
  · simp [hl]
  · intro i h1 h2
    have := h i (by omega)
    rw [rd_lt (by omega), rd_lt (by omega)] at this
    rw [this, List.getElem_reverse]
theorem rd_set (x : List Int) (i : Nat) (v : Int) (hi : i < x.length) (t : Nat) : rd (x.set i v) t = if t = i then v else rd x t := by
  unfold rd
  by_cases h : t = i
  · subst h; simp [hi]
  · rw [if_neg h]; simp [List.getD_eq_getElem?_getD, List.getElem?_set, Ne.symm h]
end Go.Proofs.Ytnjeemghkpgcfaa.Base
