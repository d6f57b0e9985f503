/- When a key was accepted last. Plain lists. -/
import Derived.Test.YtbifanoiailjoaaRateStPure
namespace Go.Proofs.Ytbifanoiailjoaa.MRatePlays
open Go.RowKit Go.Proofs.YtbifanoiailjoaaW.PrintWords Go.Proofs.YtbifanoiailjoaaW.PrintLast Go.Proofs.YtbifanoiailjoaaW.PrintMore Go.Proofs.Ytbifanoiailjoaa.Base
set_option linter.unusedVariables false
set_option linter.unusedSimpArgs false

theorem uniq (es : List S37) (hR : Riseu es) (x y : S37) (hx : x ∈ es) (hy : y ∈ es) (h : x.f0 = y.f0) : x = y := by
  obtain ⟨i, hi, rfl⟩ := List.getElem_of_mem hx
  obtain ⟨j, hj, rfl⟩ := List.getElem_of_mem hy
  have h1 := (hasu_at es hR i hi).1
  have h2 := (hasu_at es hR j hj).1
  rw [h, h2] at h1
  subst h1
  rfl
theorem rd_mem (es : List S37) (k : Int) (h : hasu es k = true) : rd_T37 es (lowu es k) ∈ es := by
  have hl := hasu_lt es k h
  rw [rdu_get es _ hl]
  exact List.getElem_mem _
end Go.Proofs.Ytbifanoiailjoaa.MRatePlays
