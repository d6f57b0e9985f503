/- Acts in boxes; sums. -/
import Derived.Test.YtbifanoiailjoaaRateAct
import Derived.Test.YtbifanoiailjoaaRateMU
namespace Go.Proofs.Ytbifanoiailjoaa.MRatePlays
open Go.RowKit Go.Proofs.YtbifanoiailjoaaW.PrintWords Go.Proofs.YtbifanoiailjoaaW.PrintLast Go.Proofs.YtbifanoiailjoaaW.PrintMore Go.Proofs.Ytbifanoiailjoaa.Base
set_option linter.unusedVariables false
set_option linter.unusedSimpArgs false

theorem Tabu.lt {W : World} {g b : Nat} {es : List S37} {room span : Int} (h : Tabu W g b es room span) : g < W.heap.size ∧ b < W.heap.size := by
  obtain ⟨sl, hg, hs⟩ := h
  refine ⟨blk_lt hg, ?_⟩
  rcases hs with ⟨_, _, rfl⟩ | ⟨_, c, rest, _, hr, _, _⟩
  · exact blk_lt hg
  · exact blk_lt hr
def A4 (x : S32) : Array Value := #[.int .i64 x.f0, .int .u32 x.f1, .int .i64 x.f2, .int .i64 x.f3]
theorem a4_one (x : S32) : (A4 x).all (·.oneCell') = true := by simp [A4, Value.oneCell']
end Go.Proofs.Ytbifanoiailjoaa.MRatePlays
