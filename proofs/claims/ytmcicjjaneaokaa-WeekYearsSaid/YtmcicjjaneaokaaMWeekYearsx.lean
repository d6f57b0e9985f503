-- This text was written by a program of this session (a changed scratch copy of a tool of the kit; NOTES.md tells the changes).
import Derived.Test.YtmcicjjaneaokaaMWeekYearsx0
import Derived.Test.YtmcicjjaneaokaaMWeekYearsx1
import Derived.Test.YtmcicjjaneaokaaMWeekYearsx2
import Derived.Test.YtmcicjjaneaokaaMWeekYearsx3
import Derived.Test.YtmcicjjaneaokaaMWeekYearsx4
import Derived.Test.YtmcicjjaneaokaaMWeekYearsx5
import Derived.Test.YtmcicjjaneaokaaMWeekYearsx6
namespace Go.Proofs.Ytmcicjjaneaokaa.MWeekYears
open Go.RowKit Go.Proofs.YtmcicjjaneaokaaW.PrintWords Go.Proofs.YtmcicjjaneaokaaW.PrintLast Go.Proofs.YtmcicjjaneaokaaW.PrintMore
attribute [local go_sem] max2_int min2_int max_two min_two max_three min_three max_four min_four   -- for this text's walks alone
set_option linter.unusedVariables false
set_option linter.unusedSimpArgs false

end Go.Proofs.Ytmcicjjaneaokaa.MWeekYears
