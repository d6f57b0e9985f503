-- This text was written by a program of this session (a changed scratch copy of a tool of the kit; NOTES.md tells the changes).
import Derived.Test.YtjameiglfecagaaMGpsWeeksx0
import Derived.Test.YtjameiglfecagaaMGpsWeeksx1
import Derived.Test.YtjameiglfecagaaMGpsWeeksx2
import Derived.Test.YtjameiglfecagaaMGpsWeeksx3
import Derived.Test.YtjameiglfecagaaMGpsWeeksx4
import Derived.Test.YtjameiglfecagaaMGpsWeeksx5
import Derived.Test.YtjameiglfecagaaMGpsWeeksx6
import Derived.Test.YtjameiglfecagaaMGpsWeeksx7
import Derived.Test.YtjameiglfecagaaMGpsWeeksx8
namespace Go.Proofs.Ytjameiglfecagaa.MGpsWeeks
open Go.RowKit Go.Proofs.YtjameiglfecagaaW.PrintWords Go.Proofs.YtjameiglfecagaaW.PrintLast Go.Proofs.YtjameiglfecagaaW.PrintMore
attribute [local go_sem] max2_int min2_int max_two min_two max_three min_three max_four min_four   -- for this text's walks alone
set_option linter.unusedVariables false
set_option linter.unusedSimpArgs false

end Go.Proofs.Ytjameiglfecagaa.MGpsWeeks
