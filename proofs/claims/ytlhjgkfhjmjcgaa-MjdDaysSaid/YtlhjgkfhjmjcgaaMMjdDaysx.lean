-- This text was written by a program of this session (a changed scratch copy of a tool of the kit; NOTES.md tells the changes).
import Derived.Test.YtlhjgkfhjmjcgaaMMjdDaysx0
import Derived.Test.YtlhjgkfhjmjcgaaMMjdDaysx1
import Derived.Test.YtlhjgkfhjmjcgaaMMjdDaysx2
import Derived.Test.YtlhjgkfhjmjcgaaMMjdDaysx3
import Derived.Test.YtlhjgkfhjmjcgaaMMjdDaysx4
import Derived.Test.YtlhjgkfhjmjcgaaMMjdDaysx5
import Derived.Test.YtlhjgkfhjmjcgaaMMjdDaysx6
import Derived.Test.YtlhjgkfhjmjcgaaMMjdDaysx7
import Derived.Test.YtlhjgkfhjmjcgaaMMjdDaysx8
namespace Go.Proofs.Ytlhjgkfhjmjcgaa.MMjdDays
open Go.RowKit Go.Proofs.YtlhjgkfhjmjcgaaW.PrintWords Go.Proofs.YtlhjgkfhjmjcgaaW.PrintLast Go.Proofs.YtlhjgkfhjmjcgaaW.PrintMore
attribute [local go_sem] max2_int min2_int max_two min_two max_three min_three max_four min_four   -- for this text's walks alone
set_option linter.unusedVariables false
set_option linter.unusedSimpArgs false

end Go.Proofs.Ytlhjgkfhjmjcgaa.MMjdDays
