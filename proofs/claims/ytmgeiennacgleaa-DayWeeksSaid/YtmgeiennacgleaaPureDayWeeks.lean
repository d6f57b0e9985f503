/- DayWeeks: weekdays go round, from 1 to 7. For every number of Go's kinds; no further condition. -/
import Derived.Test.YtmgeiennacgleaaMDayWeeksx
import Derived.Test.YtmgeiennacgleaaBase
namespace Go.Proofs.Ytmgeiennacgleaa.MDayWeeks
open Go.RowKit Go.Proofs.YtmgeiennacgleaaW.PrintWords Go.Proofs.YtmgeiennacgleaaW.PrintLast Go.Proofs.YtmgeiennacgleaaW.PrintMore Go.Proofs.Ytmgeiennacgleaa.Base
set_option linter.unusedVariables false
set_option linter.unusedSimpArgs false

theorem weekday_is (n : Int) : day_Weekday.f n = some ((n + 3) % 7 + 1) := by
  unfold day_Weekday.f
  rw [tmod_is n 7]
  split
  · rw [wr (n := -(-n % 7) + 3) (by omega), tmod_is (-(-n % 7) + 3) 7]
    split
    · rw [wr (n := -(-(-(-n % 7) + 3) % 7) + 7) (by omega), tmod_is, if_neg (by omega), wr (by omega)]; congr 1; omega
    · rw [wr (n := (-(-n % 7) + 3) % 7 + 7) (by omega), tmod_is, if_neg (by omega), wr (by omega)]; congr 1; omega
  · rw [wr (n := n % 7 + 3) (by omega), tmod_is (n % 7 + 3) 7, if_neg (by omega), wr (n := (n % 7 + 3) % 7 + 7) (by omega), tmod_is, if_neg (by omega), wr (by omega)]; congr 1; omega
theorem alive_is : Ev (fun k => horologelaw05_alive.f k) true := Ev.of (fun k => horologelaw05_alive.mono k) (k := 10) (by kernel_rfl)
end Go.Proofs.Ytmgeiennacgleaa.MDayWeeks
namespace Go.Proofs.Ytmgeiennacgleaa.Pure
open Go.RowKit Go.Proofs.Ytmgeiennacgleaa.MDayWeeks Go.Proofs.YtmgeiennacgleaaW.PrintWords Go.Proofs.YtmgeiennacgleaaW.PrintLast Go.Proofs.Ytmgeiennacgleaa.Base
theorem DayWeeks : horologelaw05_DayWeeks.Pure := by
  intro n b hn hb
  replace hn := bounds_i64 hn
  replace hb := bounds_u16 hb
  refine Ev.ok (g := fun k => horologelaw05_DayWeeks.f k n b) ?_
  unfold horologelaw05_DayWeeks.f
  refine Ev.bind alive_is (Ev.pos rfl ?_)
  have hf : Ev (fun k => horologelaw05_DayWeeks.j0 k n b true) true := by
    refine Ev.up ?_
    simp only [horologelaw05_DayWeeks.j0, if_true, weekday_is, Option.bind_some]
    refine Ev.pos (by omega) (Ev.cast (Ev.now _) (decide_eq_true (by omega)))
  refine Ev.ite (fun _ => hf) (fun h => ?_)
  by_cases h2 : n < -4611686018427387904
  · rw [decide_eq_true h2]; exact hf
  · rw [decide_eq_false h2]
    refine Ev.up ?_
    simp only [horologelaw05_DayWeeks.j0, Bool.false_eq_true, if_false, weekday_is, Option.bind_some]
    refine Ev.pos (by omega) (Ev.pos (by omega) (Ev.pos ?_ (Ev.cast (Ev.now _) ?_)))
    · rw [wr (by omega), tmod_is, if_neg (by omega), wr (by omega)]; omega
    · rw [wr (n := b) (by omega), wr (n := 7 * b) (by omega), wr (by omega)]
      exact beq_iff_eq.mpr (by omega)
end Go.Proofs.Ytmgeiennacgleaa.Pure
