/- Figures in texts: how many a text begins with, and their number: plain facts. No condition. -/
import Derived.Test.YtbifanoiailjoaaTextBase
namespace Go.Proofs.Ytbifanoiailjoaa.Base
open Go.RowKit Go.Proofs.YtbifanoiailjoaaW.PrintWords Go.Proofs.YtbifanoiailjoaaW.PrintLast Go.Proofs.YtbifanoiailjoaaW.PrintMore
set_option linter.unusedVariables false
set_option linter.unusedSimpArgs false
/-- Is a byte a figure? -/
def figb (c : Int) : Prop := 48 ≤ c ∧ c ≤ 57
instance (c : Int) : Decidable (figb c) := inferInstanceAs (Decidable (_ ∧ _))
/-- The number of figures in a row. -/
def lv (l : List Int) : Int := l.foldl (fun a d => a * 10 + (d - 48)) 0
theorem lv_snoc (l : List Int) (d : Int) : lv (l ++ [d]) = lv l * 10 + (d - 48) := by unfold lv; rw [List.foldl_append]; rfl
theorem lv_digs (n : Nat) : lv (digs n).reverse = n := by
  induction n using Nat.strongRecOn with
  | ind n ih =>
    by_cases h : n = 0
    · subst h; rw [digs_zero]; rfl
    · rw [digs_pos (by omega), List.reverse_cons, lv_snoc, ih (n / 10) (by omega)]; omega
theorem lv_rep (k : Nat) (l : List Int) : lv (List.replicate k 48 ++ l) = lv l := by
  unfold lv
  rw [List.foldl_append]
  congr 1
  induction k with
  | zero => rfl
  | succ k ih => rw [List.replicate_succ, List.foldl_cons]; exact ih
theorem lv_raw (n w : Nat) : lv (rawV n w) = n := by unfold rawV; rw [lv_rep, lv_digs]
theorem rawV_figs (n w : Nat) : ∀ x ∈ rawV n w, 48 ≤ x ∧ x ≤ 57 := by
  intro x hx
  unfold rawV at hx
  rcases List.mem_append.mp hx with h | h
  · rw [(List.mem_replicate.mp h).2]; omega
  · exact digs_rng n x (List.mem_reverse.mp h)
end Go.Proofs.Ytbifanoiailjoaa.Base
