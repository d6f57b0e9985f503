-- This text was written by a program of this session (a changed scratch copy of a tool of the kit; NOTES.md tells the changes).
import Derived.Test.YtmcicjjaneaokaaMWeekTextsx0
import Derived.Test.YtmcicjjaneaokaaMWeekTextsx1
import Derived.Test.YtmcicjjaneaokaaMWeekTextsx2
import Derived.Test.YtmcicjjaneaokaaMWeekTextsx3
import Derived.Test.YtmcicjjaneaokaaMWeekTextsx4
import Derived.Test.YtmcicjjaneaokaaMWeekTextsx5
import Derived.Test.YtmcicjjaneaokaaMWeekTextsx6
import Derived.Test.YtmcicjjaneaokaaMWeekTextsx7
import Derived.Test.YtmcicjjaneaokaaMWeekTextsx8
import Derived.Test.YtmcicjjaneaokaaMWeekTextsx9
import Derived.Test.YtmcicjjaneaokaaMWeekTextsx10
namespace Go.Proofs.Ytmcicjjaneaokaa.MWeekTexts
open Go.RowKit Go.Proofs.YtmcicjjaneaokaaW.PrintWords Go.Proofs.YtmcicjjaneaokaaW.PrintLast Go.Proofs.YtmcicjjaneaokaaW.PrintMore
attribute [local go_sem] max2_int min2_int max_two min_two max_three min_three max_four min_four   -- for this text's walks alone
set_option linter.unusedVariables false
set_option linter.unusedSimpArgs false

end Go.Proofs.Ytmcicjjaneaokaa.MWeekTexts
