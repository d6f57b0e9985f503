/- Who stays: the last keys that were accepted. Plain lists. -/
import Derived.Test.YtbifanoiailjoaaRateMU
namespace Go.Proofs.Ytbifanoiailjoaa.MRatePlays
open Go.RowKit Go.Proofs.YtbifanoiailjoaaW.PrintWords Go.Proofs.YtbifanoiailjoaaW.PrintLast Go.Proofs.YtbifanoiailjoaaW.PrintMore Go.Proofs.Ytbifanoiailjoaa.Base
set_option linter.unusedVariables false
set_option linter.unusedSimpArgs false

theorem keys_nodup (es : List S37) (h : Riseu es) : (es.map (·.f0)).Nodup := by
  have h1 := (riseu_keys es).1 h
  refine List.Pairwise.imp (fun {a b} hab => ?_) h1
  rintro rfl
  rw [ltu_irr] at hab
  cases hab
theorem split_at (es : List S37) (key : Int) (h : hasu es key = true) : ∃ A x C, es = A ++ x :: C ∧ x.f0 = key ∧ A = es.take (lowu es key) ∧ C = es.drop (lowu es key + 1) ∧ x = rd_T37 es (lowu es key) :=
  ⟨_, _, _, by rw [← List.singleton_append, ← List.append_assoc]; exact partu es _ (hasu_lt es key h), hasu_key es key h, rfl, rfl, rfl⟩
theorem cp64_neg {a b : Int} : cp64 a b < 0 ↔ a < b := by unfold cp64; split <;> (try split) <;> omega
theorem cp64_zero {a b : Int} : cp64 a b = 0 ↔ a = b := by unfold cp64; split <;> (try split) <;> omega
theorem putIn_perm (es : List S37) (key m : Int) : ∃ A C, putInu es key m = A ++ ⟨key, m, false⟩ :: C ∧ es = A ++ C := ⟨_, _, rfl, (List.take_append_drop _ _).symm⟩
end Go.Proofs.Ytbifanoiailjoaa.MRatePlays
