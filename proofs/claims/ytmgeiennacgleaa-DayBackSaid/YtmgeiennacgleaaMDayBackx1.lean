-- This text was written by a program of this session (a changed scratch copy of a tool of the kit; NOTES.md tells the changes).
import Derived.Test.YtmgeiennacgleaaMDayBackx0
namespace Go.Proofs.Ytmgeiennacgleaa.MDayBack
open Go.RowKit Go.Proofs.YtmgeiennacgleaaW.PrintWords Go.Proofs.YtmgeiennacgleaaW.PrintLast Go.Proofs.YtmgeiennacgleaaW.PrintMore
attribute [local go_sem] max2_int min2_int max_two min_two max_three min_three max_four min_four   -- for this text's walks alone
set_option linter.unusedVariables false
set_option linter.unusedSimpArgs false

theorem eqA50 (d : Nat) (w : World) (x0 y0 : Int) (x1 y1 : Int) (x2 y2 : Int) :
    (Op.equalIn (d + 2) 50 (.agg #[.int .i64 x0, .int .i64 x1, .int .i64 x2]) (.agg #[.int .i64 y0, .int .i64 y1, .int .i64 y2])).run Try.prog w = .ok (x0 == y0 && (x1 == y1 && (x2 == y2))) w := by
  rw [Op.equalIn]
  simp only [Sem.run_bind, run_underlying Try.underlying50, Result.andThen_ok]
  by_cases h0 : x0 = y0 <;> by_cases h1 : x1 = y1 <;> by_cases h2 : x2 = y2 <;> (go_simp; rw [show List.range' 0 3 = [0, 1, 2] from rfl]; simp [go_sem, h0, h1, h2, List.forIn_cons, isAgg, Sem.run_bind, run_underlying Try.underlying3])
end Go.Proofs.Ytmgeiennacgleaa.MDayBack
